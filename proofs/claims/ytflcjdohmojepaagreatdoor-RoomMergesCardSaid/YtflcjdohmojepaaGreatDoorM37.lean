/- Part 38 of the proof of roomMerges_card, set without needless blanks. No condition. -/
import Derived.Test.YtflcjdohmojepaaGreatDoorM36
set_option linter.all false
set_option maxRecDepth 100000
set_option maxHeartbeats 16000000
section
namespace Go.Proofs.YtflcjdohmojepaaGreatDoor
open Go Go.Dm Go.Proofs Go.Proofs.Tryz
theorem zBo{h:aD}{i n:Nat}{l:List Nm}{K:DV->aD->Prop}(hl:l.length<=1000000)(hn:n=l.length)(hcl:h.all (bP h.length)=true)(h0:h[i]?=some (.arr 2 (bS l) false))(hk:K (.c (.p (.sl 2 (bS l)))) h):
  aA prog 55 [.c (.own i 0 n)] h K :=
 aA.mono (aA.dataRH (gC l) hcl (NV hl hn h0 ⟨rfl,rfl⟩)) (by rintro _ _ ⟨rfl,rfl⟩;exact hk)
theorem zDG{h:aD}{i n:Nat}{l:List Ly}{K:DV->aD->Prop}(hl:l.length<=1000000)(hn:n=l.length)(hcl:h.all (bP h.length)=true)(h0:h[i]?=some (.arr 4 (dA l) false))(hk:K (.c (.p (.sl 4 (dA l)))) h):
  aA prog 56 [.c (.own i 0 n)] h K :=
 aA.mono (aA.dataRH (gH l) hcl (zH9 hl hn h0 ⟨rfl,rfl⟩)) (by rintro _ _ ⟨rfl,rfl⟩;exact hk)
theorem zOP{l:List Nm}(hl:l.length<=1000000):aA prog 60 [.c (.p (.sl 2 (bS l))),.c (.p (.sl 2 (bS l)))] [] λr h=>r=.c (.p (.b true))/\h=[]:=by
 refine eT func60 λX0 hX=>?_;simp only[f60,go_sem]
 repeat' (first|exact⟨⟩|refine sp ?_)
 refine eX aF aN (α:=Nat) (λk=>⟨26,[(0,.c (.p (.sl 2 (bS l)))),(1,.c (.p (.sl 2 (bS l)))),(12,.c (.p (.i .i64 l.length))),(13,.c (.p (.i .i64 k)))],[]⟩)
  (λk=>k<=l.length) (λk=>l.length-k) 0 (Nat.zero_le _) (dC (aB (by rw[hX];rfl) rfl rfl wkK)) ?_
 intro k hk;by_cases hlt:k<l.length
 .have hx:l[k]?=some l[k]:=List.getElem?_eq_getElem hlt;have hg:=qY hx;have h1:decide ((k:Int)<(l.length:Int))=true:=decide_eq_true (by omega);have h2:(k:Int)<(l.length:Int):=by omega
  have h3:(0:Int)<=k:=by omega
  have w1:IntKind.i64.wrap ((k:Int)+1)=k+1:=wrap_i64 (by omega) (by omega);generalize l[k]=x at hx hg;clear hx
  repeat' (first|exact⟨⟩|refine sp ?_|((refine aG (id:=6) aF aN [] [0,1,2,3,4,5,6,7,8] (by decide +kernel) ?_);(repeat' (first|(refine aT ?_)|((refine bL ?_ rfl rfl ?_ ?_);(rotate_left 1);(focus ((repeat' (first|exact⟨⟩|refine sp ?_|refine zPi ?_));exact rfl));(simp only[aC]))))))
  exact wK (k+1) (by omega) (by omega) (dC (aB rfl rfl rfl wkK))
 .have h1:decide ((k:Int)<(l.length:Int))=false:=decide_eq_false (by omega)
  repeat' (first|exact⟨⟩|refine sp ?_)
theorem zQs{l:List Ly}(hl:l.length<=1000000):aA prog 61 [.c (.p (.sl 4 (dA l))),.c (.p (.sl 4 (dA l)))] [] λr h=>r=.c (.p (.b true))/\h=[]:=by
 refine eT func61 λX0 hX=>?_;simp only[f61,go_sem]
 repeat' (first|exact⟨⟩|refine sp ?_)
 refine eX aF aN (α:=Nat) (λk=>⟨26,[(0,.c (.p (.sl 4 (dA l)))),(1,.c (.p (.sl 4 (dA l)))),(12,.c (.p (.i .i64 l.length))),(13,.c (.p (.i .i64 k)))],[]⟩)
  (λk=>k<=l.length) (λk=>l.length-k) 0 (Nat.zero_le _) (dC (aB (by rw[hX];rfl) rfl rfl wkK)) ?_
 intro k hk;by_cases hlt:k<l.length
 .have hx:l[k]?=some l[k]:=List.getElem?_eq_getElem hlt;have hg:=nS hx;have h1:decide ((k:Int)<(l.length:Int))=true:=decide_eq_true (by omega);have h2:(k:Int)<(l.length:Int):=by omega
  have h3:(0:Int)<=k:=by omega
  have w1:IntKind.i64.wrap ((k:Int)+1)=k+1:=wrap_i64 (by omega) (by omega);generalize l[k]=x at hx hg;clear hx
  repeat' (first|exact⟨⟩|refine sp ?_|((refine aG (id:=6) aF aN [] [0,1,2,3,4,5,6,7,8] (by decide +kernel) ?_);(repeat' (first|(refine aT ?_)|((refine bL ?_ rfl rfl ?_ ?_);(rotate_left 1);(focus ((repeat' (first|exact⟨⟩|refine sp ?_|refine zO8 ?_));exact rfl));(simp only[aC]))))))
  exact wK (k+1) (by omega) (by omega) (dC (aB rfl rfl rfl wkK))
 .have h1:decide ((k:Int)<(l.length:Int))=false:=decide_eq_false (by omega)
  repeat' (first|exact⟨⟩|refine sp ?_)
def TD(r:Rm):aD:=[.box [.own 1 0 r.N.length,.own 2 0 r.L.length,.mp 3,.p (.i .i64 r.x)],.arr 2 (bS r.N) false,.arr 4 (dA r.L) false,.mp (oZ r.E),.box [.p (.sl 2 (bS r.N)),.p (.sl 4 (dA r.L)),.mp 5,.p (.i .i64 r.x)],.mp (oZ r.E)]
def EY(r:Rm):aD:=[.box [.own 1 0 r.N.length,.own 2 0 r.L.length,.mp 3,.p (.i .i64 r.x)],.arr 2 (bS r.N) false,.arr 4 (dA r.L) false,.mp (oZ r.E),.box [.p (.sl 2 (bS r.N)),.p (.sl 4 (dA r.L)),.mp 5,.p (.i .i64 r.x)],.mp (oZ r.E),.box [.ptr 0 0],.box [.ptr 4 0]]
theorem YV{r:Rm}{i p s:Int}{f:Bool}(hE:OkE (lF r.E i)):aA prog 63 [.agg [.p (.i .i64 i),.p (.i .i64 p),.p (.i .i64 s),.p (.b f)],.c (.ptr 6 0),.c (.ptr 7 0)] (EY r)
  λd h=>d=.c (.p (.b false))/\h=EY r:=by
 have hs:=XO (a:=lF r.E i) (b:=lF r.E i) (Nat.le_trans hE.len (by decide)) (Nat.le_trans hE.len (by decide));rw[DH λx hx=>hE.tlen x hx] at hs;unfold EY;clear hE;refine eT func63 λX0 hX=>?_;simp only[f63,go_sem]
 repeat' (first|exact⟨⟩|refine sp ?_|((refine aG (id:=1) aF aN [] [0,1,2,3,4,5,6,7,8,9,10,11,12,13,14,15,16] (by decide +kernel) ?_);(repeat' (first|(refine aT ?_)|((refine bL ?_ rfl rfl ?_ ?_);(rotate_left 1);(focus ((repeat' (first|exact⟨⟩|refine sp ?_|refine uF (hs) ?_));exact rfl));(simp only[aC]))))))
theorem TJ{r:Rm}(hr:OkR r):aA prog 109 [.c (.own 2 0 r.L.length),.c (.clo 63 [.ptr 6 0,.ptr 7 0])] (EY r)
  λd h=>d=.c (.p (.i .i64 (-1)))/\h=EY r:=by
 have hll:=hr.ll;have hc:=λ(x:Ly) (hx:x∈r.L)=>YV (p:=x.p) (s:=x.s) (f:=x.f) (hr.ent x hx);unfold EY at *;clear hr;refine eT func109 λX0 hX=>?_;simp only[f109,go_sem]
 repeat' (first|exact⟨⟩|refine sp ?_)
 refine eX aF aN (α:=Nat) (λk=>⟨19,[(0,.c (.own 2 0 r.L.length)),(1,.c (.clo 63 [.ptr 6 0,.ptr 7 0])),(7,.c (.p (.i .i64 r.L.length))),(8,.c (.p (.i .i64 k)))],[.box [.own 1 0 r.N.length,.own 2 0 r.L.length,.mp 3,.p (.i .i64 r.x)],.arr 2 (bS r.N) false,.arr 4 (dA r.L) false,.mp (oZ r.E),.box [.p (.sl 2 (bS r.N)),.p (.sl 4 (dA r.L)),.mp 5,.p (.i .i64 r.x)],.mp (oZ r.E),.box [.ptr 0 0],.box [.ptr 4 0]]⟩)
  (λk=>k<=r.L.length) (λk=>r.L.length-k) 0 (Nat.zero_le _) (dC (aB (by rw[hX];rfl) rfl rfl wkK)) ?_
 intro k hk;by_cases hlt:k<r.L.length
 .have hx:r.L[k]?=some r.L[k]:=List.getElem?_eq_getElem hlt;have hg:=nS hx;have hc:=hc _ (List.getElem_mem hlt);have h1:decide ((k:Int)<(r.L.length:Int))=true:=decide_eq_true (by omega);have h2:(k:Int)<(r.L.length:Int):=by omega
  have h3:(0:Int)<=k:=by omega
  have w1:IntKind.i64.wrap ((k:Int)+1)=k+1:=wrap_i64 (by omega) (by omega);generalize r.L[k]=x at hx hg hc;clear hx
  repeat' (first|exact⟨⟩|refine sp ?_|refine uS [0,1,2,3,4,5,6,7] (hc) ?_)
  exact wK (k+1) (by omega) (by omega) (dC (aB rfl rfl rfl wkK))
 .have h1:decide ((k:Int)<(r.L.length:Int))=false:=decide_eq_false (by omega);clear hc
  repeat' (first|exact⟨⟩|refine sp ?_)
theorem TH{r:Rm}(hr:OkR r):aA prog 62 [.c (.own 2 0 r.L.length),.c (.clo 63 [.ptr 6 0,.ptr 7 0])] (EY r)
  λd h=>d=.c (.p (.b false))/\h=EY r:=by
 have hc:=TJ hr;unfold EY at *;clear hr;refine eT func62 λX0 hX=>?_;simp only[f62,go_sem]
 repeat' (first|exact⟨⟩|refine sp ?_|refine uS [0,1,2,3,4,5,6,7] (hc) ?_)
theorem zCL{r:Rm}(hr:OkR r):aA prog 16 [.c (.ptr 0 0),.c (.ptr 4 0)] (TD r) λd h=>d=.c (.p (.b true))/\h=TD r:=by
 have hnl:=hr.nl;have hll:=hr.ll;have hc:=TH hr;have k1:∀{h:aD} {K:DV->aD->Prop},h[1]?=some (.arr 2 (bS r.N) false)->K (.c (.p (.b true))) h->aA prog 60 [.c (.own 1 0 r.N.length),.c (.p (.sl 2 (bS r.N)))] h K:=λh0 hk =>
  zC6 rfl (by rw[<- gC,List.take_length]) (zOP (by omega)) h0 (λd hd=>by subst hd;exact⟨rfl,hk⟩)
 have k2:∀{h:aD} {K:DV->aD->Prop},h[2]?=some (.arr 4 (dA r.L) false)->K (.c (.p (.b true))) h->aA prog 61 [.c (.own 2 0 r.L.length),.c (.p (.sl 4 (dA r.L)))] h K:=λh0 hk =>
  zC6 rfl (by rw[<- gH,List.take_length]) (zQs (by omega)) h0 (λd hd=>by subst hd;exact⟨rfl,hk⟩)
 unfold EY at hc;unfold TD;clear hr;refine eT func16 λX0 hX=>?_;simp only[f16,go_sem]
 repeat' (first|exact⟨⟩|refine sp ?_|((refine aG (id:=1) aF aN [] [0,1,2,3,4,5,6,7,8,9,10,11,12,13,14,15,16,17,18,19,20,21,22,23,24,25,26,27,28,29,30,31,32,33,34,35,36,37,38,39,40] (by decide +kernel) ?_);(repeat' (first|(refine aT ?_)|((refine bL ?_ rfl rfl ?_ ?_);(rotate_left 1);(focus ((repeat' (first|exact⟨⟩|refine sp ?_|refine k1 rfl ?_|refine k2 rfl ?_));exact rfl));(simp only[aC])))))|refine uS [0,1,2,3,4,5,6,7] (hc) ?_)
theorem zAZ:∀(l:List (Int × PV)) (n:Int) (x:PV),(∀e∈l,e.1≠n)->EJ l n x=l++[(n,x)]
 | [],_,_,_=>rfl
 | e::es,n,x,h=>by
  simp only[EJ];rw[if_neg (h e List.mem_cons_self),zAZ es n x λe he=>h e (List.mem_cons_of_mem _ he)];rfl
theorem zLW{es:List (Int × PV)}{js:List Nat}{j:Nat}{y:Int × PV}(hn:(es.map (·.1)).Nodup)(hy:es[j]?=some y)(hj:j ∉ js):∀e∈yC es js,e.1≠y.1:=by
 intro e he h;unfold yC at he;obtain⟨k,hk,hke⟩:=List.mem_filterMap.1 he;have hp:=List.pairwise_iff_getElem.1 hn;obtain⟨k1,k2⟩:=List.getElem?_eq_some_iff.1 hke;obtain⟨j1,j2⟩:=List.getElem?_eq_some_iff.1 hy;rcases Nat.lt_trichotomy k j with h3|rfl|h3
 .exact hp k j (by simpa using k1) (by simpa using j1) h3 (by simp[k2,j2,h])
 .exact hj hk
 .exact hp j k (by simpa using j1) (by simpa using k1) h3 (by simp[k2,j2,h])
theorem zCG{r:Rm}(hr:OkR r):aA prog 13 [.c (.ptr 0 0)] (bO r) λd h=>d=.c (.ptr 4 0)/\h=TD r:=by
 have hnl:=hr.nl;have hll:=hr.ll;have k1:∀{h:aD} {K:DV->aD->Prop},h[1]?=some (.arr 2 (bS r.N) false)->h.all (bP h.length)=true->K (.c (.p (.sl 2 (bS r.N)))) h->aA prog 55 [.c (.own 1 0 r.N.length)] h K:=λh0 hc hk=>zBo (by omega) rfl hc h0 hk;have k2:∀{h:aD} {K:DV->aD->Prop},h[2]?=some (.arr 4 (dA r.L) false)->h.all (bP h.length)=true->K (.c (.p (.sl 4 (dA r.L)))) h->aA prog 56 [.c (.own 2 0 r.L.length)] h K:=λh0 hc hk=>zDG (by omega) rfl hc h0 hk;clear hr;refine aA.perm [0,1,2,3,5,4] (d1:=.c (.ptr 5 0)) (h1:=[.box [.own 1 0 r.N.length,.own 2 0 r.L.length,.mp 3,.p (.i .i64 r.x)],.arr 2 (bS r.N) false,.arr 4 (dA r.L) false,.mp (oZ r.E),.mp (oZ r.E),.box [.p (.sl 2 (bS r.N)),.p (.sl 4 (dA r.L)),.mp 4,.p (.i .i64 r.x)]]) ?_ rfl rfl (by unfold TD;exact hpK);refine zQq aF func13 rfl rfl λX0 hX=>?_;simp only[f13,go_sem];refine bE aF aN ?_
 repeat' (first|exact⟨⟩|refine sp ?_)
 refine bE aF aN ?_
 repeat' (first|exact⟨⟩|refine sp ?_|((refine aG (id:=1) aF aN [10,16] [10,0,1,2,3,4,5,6,7,8,9,11,12,13,14,15,16,17] (by decide +kernel) ?_);(repeat' (first|(refine aT ?_)|((refine cK ?_ ?_ rfl rfl rfl ?_ ?_);(rotate_left 2);(focus ((repeat' (first|exact⟨⟩|refine sp ?_));((refine And.intro ?_ ?_<;>exact rfl))));(simp only[aC]))|((refine cJ ?_ rfl rfl rfl ?_ ?_);(rotate_left 1);(focus ((repeat' (first|exact bA|refine aW ?_ ?_));(all_goals ((repeat' (first|exact⟨⟩|refine sp ?_|refine k1 rfl rfl ?_|refine k2 rfl rfl ?_));(try (exact rfl))))));(simp only[aC]))))))
 refine DQ ?_;refine zHd aF 4 (i:=27) (mid:=3) [4,5] [.mp [],.box [.p (.sl 2 (bS r.N)),.p (.sl 4 (dA r.L)),.mp 0,.p (.i .i64 r.x)]] [(3,.c (.ptr 1 0))] (oZ r.E) rfl rfl rfl rfl Tryz.underlying56 (by decide) ?_;intro K hK
 replace hK:=PLift.up hK
 repeat' (first|exact⟨⟩|refine sp ?_)
 refine hK.down _ _ _ (by decide) rfl rfl rfl (by simp only[go_sem]) wpK ?_;clear hK k1 k2;intro b m ms c es' Y0 hpm hnd hlen hb hY;have hbn:(ms.toList.map (·.born)).Nodup:=List.pairwise_map.2 (hb.1.imp λh=>Nat.ne_of_lt h)
 refine JA ?_;refine zHe (α:=List Nat) (λjs=>⟨40,[(27,.c (.p (.o (.pointer (some ⟨b,0,none⟩))))),(3,.c (.ptr 1 0))],[.mp (yC es' js),.box [.p (.sl 2 (bS r.N)),.p (.sl 4 (dA r.L)),.mp 0,.p (.i .i64 r.x)]]⟩) (λjs=>(iZ ms js,c))
  (λjs=>js.Nodup/\∀k∈js,k<ms.toList.length) (λjs=>ms.toList.length-js.length) [] ⟨List.nodup_nil,by simp⟩ rfl (aB (by rw[hY];rfl) rfl rfl wkK) ?_
 rintro js ⟨hn,hj⟩;refine MX ?_;refine zHf aF (i:=28) rfl rfl rfl (by decide) rfl hb.2 (Nat.le_refl _) ?_ ?_
 .intro hz K hK
  replace hK:=PLift.up hK
  have hall:=zDx hb hj hz;have hpm2:(yC es' js).Perm (oZ r.E):=(zH4 hn (by rw[hlen];exact hj) (by rw[hlen];exact hall)).trans hpm;clear hall hz hlen
  repeat' (first|exact⟨⟩|refine sp ?_)
  refine hK.down _ ?_;simp only[zQb];refine ZG aF aN λX1 hX1=>?_;clear hK
  repeat' (first|exact⟨⟩|refine sp ?_)
  refine zKG (s':=⟨40,[(3,.c (.ptr 5 0))],[.box [.own 1 0 r.N.length,.own 2 0 r.L.length,.mp 3,.p (.i .i64 r.x)],.arr 2 (bS r.N) false,.arr 4 (dA r.L) false,.mp (oZ r.E),.mp (oZ r.E),.box [.p (.sl 2 (bS r.N)),.p (.sl 4 (dA r.L)),.mp 4,.p (.i .i64 r.x)]]⟩) ((zMT (es2:=oZ r.E) 4 rfl hpm2).trans (dC (aB (by rw[hX];rfl) rfl rfl wkK))) ?_;refine fE aF aN ?_
  repeat' (first|exact⟨⟩|refine sp ?_)
 .intro j e y hje hyj hnc K hK
  replace hK:=PLift.up hK
  have hnew:j ∉ js:=λh=>by rw[zDy hje h] at hnc;cases hnc
  have hjl:j<ms.toList.length:=(List.getElem?_eq_some_iff.1 hje).1;have hset:=zAZ (yC es' js) y.1 y.2 (zLW hnd hyj hnew);have hsn:=zH5 (js:=js) hyj;have hbs:=zBi (js:=js) hje;have hyl:∃n l,y=(n,PV.sl 7 (gG l)):=by
   have:=hpm.mem_iff.1 (List.mem_of_getElem? hyj);obtain⟨z,_,rfl⟩:=List.mem_map.1 this;exact⟨_,_,rfl⟩
  obtain ⟨yn,yl,rfl⟩:=hyl;simp only at hset;rw[<- hsn] at hset;have hJ:PLift ((js++[j]).Nodup/\∀k∈js++[j],k<ms.toList.length):=⟨zCc hn hnew,λk hk=>by
   rcases List.mem_append.1 hk with h|h
   .exact hj k h
   .rw[List.mem_singleton.1 h];exact hjl⟩
  have hmu:ms.toList.length-(js++[j]).length<ms.toList.length-js.length:=by
   have:=zCb hJ.down.1 hJ.down.2;rw[List.length_append] at this;simp only[List.length_append,List.length_cons,List.length_nil] at this ⊢;omega
  clear hnc hnew hlen hsn
  repeat' (first|exact⟨⟩|refine sp ?_)
  refine hK.down _ ?_;simp only[zQb];clear hK;refine zCX aF aN λX1 hX1=>?_
  repeat' (first|exact⟨⟩|refine sp ?_)
  refine JA ?_;refine MX ?_;refine zCW aF (i:=30) rfl rfl rfl (by decide) rfl rfl hje hyj hbn ?_;intro K2 hK2
  replace hK2:=PLift.up hK2
  repeat' (first|exact⟨⟩|refine sp ?_)
  refine hK2.down _ ?_;simp only[zQb];clear hK2;refine ZG aF aN λX2 hX2=>?_
  repeat' (first|exact⟨⟩|refine sp ?_)
  exact zQR (js++[j]) hJ.down hmu (by rw[hbs]) (aB rfl rfl rfl wkK)
theorem TL{r:Rm}{i p q:Int}{f:Bool}{t:List It}(hr:OkR r)(ht:OkT t)(hp:OkT (treeR r p)):
  aA prog 40 [.c (.ptr 0 0),.agg [.p (.i .i64 i),.p (.i .i64 p),.p (.i .i64 q),.p (.b f)],.c (.p (.sl 5 (aS t)))] (bO r) λd h=>d=.tup []/\h=bO ⟨r.N,r.L,oY r.E i (eF (treeR r p) t),r.x⟩:=by
 have htr:=dH (a:=p) hr;have hmk:=oB hp ht;unfold bO at htr;generalize treeR r p=w at htr hmk ⊢;clear hr hp;refine eT func40 λX0 hX=>?_;simp only[f40,go_sem]
 repeat' (first|exact⟨⟩|refine sp ?_|((refine aG (id:=1) aF aN [12] [0,1,2,3,4,5,6,7,8,9,10,11,12] (by decide +kernel) ?_);(repeat' (first|(refine aT ?_)|((refine cK ?_ ?_ rfl rfl rfl ?_ ?_);(rotate_left 2);(focus ((repeat' (first|exact⟨⟩|refine sp ?_));((refine And.intro ?_ ?_<;>exact rfl))));(simp only[bH]))|((refine cJ ?_ rfl rfl rfl ?_ ?_);(rotate_left 1);(focus ((repeat' (first|exact bA|refine aW ?_ ?_));(all_goals ((repeat' (first|exact⟨⟩|refine sp ?_|refine uS [0,1,2,3] (htr) ?_|refine uN (hmk) ?_));(try (exact rfl))))));(simp only[aC]))))))
end Go.Proofs.YtflcjdohmojepaaGreatDoor
end
section
namespace Go.Proofs
open Go.Shelf
def Tryz.growStr_ren:Go.Shelf.Ren:=⟨λ| 4=>320|n=>n,λ| 22=>63 | 25=>9 | 3=>3 | 4=>4 | 9=>9 | 20=>20 | 0=>0|n=>n,fun|n=>n⟩
theorem Tryz.growStr:Go.Proofs.Lays8.n4 Tryz.prog Tryz.growStr_ren:={
 mixed:=by kernel_rfl
 f4:=⟨Tryz.f320.name,by decide,Tryz.func320.trans (congrArg some (by kernel_rfl))⟩
 t0:=Tryz.underlying0
 a0:=Tryz.isAgg0
 z0:=Tryz.sizeOf0
 v0:=Tryz.zeroValue0
 t3:=Tryz.underlying3
 a3:=Tryz.isAgg3
 z3:=Tryz.sizeOf3
 v3:=Tryz.zeroValue3
 t4:=Tryz.underlying4
 a4:=Tryz.isAgg4
 z4:=Tryz.sizeOf4
 v4:=Tryz.zeroValue4
 t9:=Tryz.underlying9
 a9:=Tryz.isAgg9
 z9:=Tryz.sizeOf9
 v9:=Tryz.zeroValue9
 t20:=Tryz.underlying20
 a20:=Tryz.isAgg20
 z20:=Tryz.sizeOf20
 v20:=Tryz.zeroValue20
 t22:=Tryz.underlying63
 a22:=Tryz.isAgg63
 z22:=Tryz.sizeOf63
 v22:=Tryz.zeroValue63 }
def Tryz.growByte_ren:Go.Shelf.Ren:=⟨λ| 4=>293|n=>n,λ| 22=>60 | 25=>5 | 3=>3 | 4=>4 | 9=>9 | 20=>20 | 0=>0|n=>n,fun|n=>n⟩
theorem Tryz.growByte:Go.Proofs.Lays8.n4 Tryz.prog Tryz.growByte_ren:={
 mixed:=by kernel_rfl
 f4:=⟨Tryz.f293.name,by decide,Tryz.func293.trans (congrArg some (by kernel_rfl))⟩
 t0:=Tryz.underlying0
 a0:=Tryz.isAgg0
 z0:=Tryz.sizeOf0
 v0:=Tryz.zeroValue0
 t3:=Tryz.underlying3
 a3:=Tryz.isAgg3
 z3:=Tryz.sizeOf3
 v3:=Tryz.zeroValue3
 t4:=Tryz.underlying4
 a4:=Tryz.isAgg4
 z4:=Tryz.sizeOf4
 v4:=Tryz.zeroValue4
 t9:=Tryz.underlying9
 a9:=Tryz.isAgg9
 z9:=Tryz.sizeOf9
 v9:=Tryz.zeroValue9
 t20:=Tryz.underlying20
 a20:=Tryz.isAgg20
 z20:=Tryz.sizeOf20
 v20:=Tryz.zeroValue20
 t22:=Tryz.underlying60
 a22:=Tryz.isAgg60
 z22:=Tryz.sizeOf60
 v22:=Tryz.zeroValue60 }
end Go.Proofs
end
section
namespace Go.Proofs.YtflcjdohmojepaaGreatDoor
open Go Go.Dm Go.Proofs Go.Proofs.Tryz
theorem zFi{h:aD}{n:Nat}(hn:n<=1000000000):
  aA prog 320 [.c (.p .nil),.c (.p (.i .i64 n))] h λd h'=>d=.c (.own h.length 0 0)/\h'=h++[.arr 1 [] false]:=by
 have:=nP (n:=n) (h:=h) (e:=9) aF (by rw[tab9];exactλh=>by cases h) (by rw[tab9];decide) (enters func320 rfl rfl)
  (λw=>Any8.slices_Grow_room Tryz.growStr none 0 0 0 w (Nat.le_refl _) (by decide) (by decide) (Nat.le_refl _))
  (λi0 z n w h1 h2 h3 h4 h5 h6=>by
   have:=Any8.slices_Grow_grow Tryz.growStr i0 z h1 h2 h3 none 0 0 n [] w (Nat.le_refl _) (by omega) (by simpa using h5) (by simpa using h6) (by simp) (λ_=>rfl) (λa ha=>by cases ha)
   simp only[Nat.zero_add,Nat.sub_zero] at this;exact this)
  (by rw[tab9];simp only;omega) (by omega)
 rw[tab9] at this;exact this
theorem zBS{h:aD}{n:Nat}(hn:n<=1000000000):
  aA prog 293 [.c (.p .nil),.c (.p (.i .i64 n))] h λd h'=>d=.c (.own h.length 0 0)/\h'=h++[.arr 1 [] false]:=by
 have:=nP (n:=n) (h:=h) (e:=5) aF (by rw[tab5];exactλh=>by cases h) (by rw[tab5];decide) (enters func293 rfl rfl)
  (λw=>Any8.slices_Grow_room Tryz.growByte none 0 0 0 w (Nat.le_refl _) (by decide) (by decide) (Nat.le_refl _))
  (λi0 z n w h1 h2 h3 h4 h5 h6=>by
   have:=Any8.slices_Grow_grow Tryz.growByte i0 z h1 h2 h3 none 0 0 n [] w (Nat.le_refl _) (by omega) (by simpa using h5) (by simpa using h6) (by simp) (λ_=>rfl) (λa ha=>by cases ha)
   simp only[Nat.zero_add,Nat.sub_zero] at this;exact this)
  (by rw[tab5];simp only;omega) (by omega)
 rw[tab5] at this;exact this
theorem zFj{h:aD}{n:Nat}{K:DV->aD->Prop}(hn:n<=1000000000)(hk:K (.c (.own h.length 0 0)) (h++[.arr 1 [] false])):
  aA prog 320 [.c (.p .nil),.c (.p (.i .i64 n))] h K:=(zFi hn).mono (by rintro _ _ ⟨rfl,rfl⟩;exact hk)
theorem zBT{h:aD}{n:Nat}{K:DV->aD->Prop}(hn:n<=1000000000)(hk:K (.c (.own h.length 0 0)) (h++[.arr 1 [] false])):
  aA prog 293 [.c (.p .nil),.c (.p (.i .i64 n))] h K:=(zBS hn).mono (by rintro _ _ ⟨rfl,rfl⟩;exact hk)
theorem zDL{a b:List (List UInt8)}(ha:a.length<=100000)(hb:b.length<=100000):
  aA prog 288 [.c (.p (.sl 1 [[.sl 1 (Go.Dm.encS a)],[.sl 1 (Go.Dm.encS b)]]))] [] λr h=>r=.c (.p (.sl 1 (Go.Dm.encS (a++b))))/\h=[]:=by
 have w1:IntKind.i64.wrap ((a.length:Int))=a.length:=wrap_i64 (by omega) (by omega);have w2:IntKind.i64.wrap ((a.length:Int)+b.length)=((a.length+b.length:Nat):Int):=by rw[wrap_i64 (by omega) (by omega)];omega
 have h1:decide ((a.length:Int)<0)=false:=decide_eq_false (by omega);have h2:decide (((a.length+b.length:Nat):Int)<0)=false:=decide_eq_false (by omega);refine eT func288 λX0 hX=>?_;simp only[f288,go_sem]
 repeat' (first|simp only[*,go_sem,Nat.reduceLT,Nat.reduceLeDiff,Nat.reduceEqDiff,↓reduceIte,Nat.reduceAdd,Int.reduceLT,Int.reduceLE,Int.reduceAdd,Int.reduceNeg,Int.reduceToNat,Int.zero_add]|refine dM aF aN 3 ?_|refine zFj (n:=a.length+b.length) (by omega) ?_|refine ai ?_)
 all_goals rw[List.take_of_length_le (by simp)]
theorem zB8{d s:List UInt8}(hd:d.length<=1000000)(hs:s.length<=1000000):aA prog 237 [.c (.p (.s d)),.c (.p (.s s))] [] λr h=>r=.c (.p (.s (kI d s)))/\h=[]:=by
 unfold kI;refine eT func237 λX0 hX=>?_;simp only[f237,go_sem]
 repeat' (first|exact⟨⟩|refine sp ?_|refine aH (λ_=>?_) (λ_=>?_)|refine ai ?_)
 all_goals simp_all
theorem zK8(s:List UInt8):(s.all λb=>!(b==0))=s.all λb=>!((b.toNat:Int)==0):=by
 congr 1;funext b
 congr 1
 rw[Bool.eq_iff_iff,beq_iff_eq,beq_iff_eq];constructor
 .rintro rfl;rfl
 .intro h;exact UInt8.toNat_inj.1 (by have:(0:UInt8).toNat=0:=rfl;omega)
theorem CC{s:List UInt8}(hs:s.length<=9223372036854775807):aA prog 178 [.c (.p (.s s))] [] λr h=>r=.tup [.c (.p (.sl 1 (Go.Dm.encS (fY s).1))),.c (.p (.i .i64 (fY s).2))]/\h=[]:=by
 have e0:decide (0<=Lib.indexByte s (Nat.toUInt8 0)) = !(s.all λb=>!((b.toNat:Int)==0)):=by
  have:=indexByte_none 0 s;rw[<- zK8,<- this,<- decide_not];exact decide_eq_decide.2 (by rw[Int.not_lt];exact Iff.rfl)
 refine aV ?_;unfold fY;cases q0:decide ((120:Int)<s.length)
 .rw [if_neg (by decide)];have q0':¬ (120:Int)<s.length:=of_decide_eq_false q0;generalize (s.all λb=>!((b.toNat:Int)==0))=q1 at e0 ⊢;cases q1
  ·
   rw[if_pos (by rfl)];refine eT func178 λX0 hX=>?_;simp only[f178,go_sem]
   repeat' (first|exact⟨⟩|refine sp ?_|refine uF (sP (by omega)) ?_)
   all_goals exact .inr ⟨_,rfl⟩
  .rw [if_neg (by decide)];have hcl:(qW s).length<=s.length+1:=qV s [];have hsp:=zG6 (a:=s) (by omega);generalize qW s=P at hcl hsp ⊢;refine eT func178 λX0 hX=>?_;simp only[f178,go_sem]
   repeat' (first|exact⟨⟩|refine sp ?_|refine uF (sP (by omega)) ?_|refine uN (hsp) ?_)
   clear hsp e0;refine dQ aF aN 4 1 rfl ?_;refine aP aF aN (α:=Nat × List (List UInt8)) (λx=>⟨33,[(16,.c (.p (.sl 1 (Go.Dm.encS P)))),(17,.c (.p (.i .i64 P.length))),(18,.c (.p (.i .i64 x.1))),(4,.c (.own 0 0 x.2.length))],[.arr 1 (Go.Dm.encS x.2) false]⟩)
    (λx=>x.1<=P.length/\((P.take x.1).all λy=>!decide ((24:Int)<y.length))=true/\((P.take x.1).filter λy=>!(y == []))=x.2) (λx=>P.length-x.1) (0,[]) ⟨Nat.zero_le _,rfl,rfl⟩ (.inl (aB (by rw[hX];rfl) rfl rfl wkS)) ?_
   rintro⟨k,out⟩ ⟨hk,hal,hfo⟩;simp only at hk hal hfo;have hol:out.length<=k:=by rw[<- hfo];exact Nat.le_trans (List.length_filter_le ..) (List.length_take_le ..)
   by_cases hlt:k<P.length
   .have hx:P[k]?=some P[k]:=List.getElem?_eq_getElem hlt;have hg:=encS_at hx;have h1:decide ((k:Int)<(P.length:Int))=true:=decide_eq_true (by omega);have h2:(k:Int)<(P.length:Int):=by omega
    have w1:IntKind.i64.wrap ((k:Int)+1)=k+1:=wrap_i64 (by omega) (by omega);have htk:=List.take_add_one (l:=P) (i:=k);have hmem:P[k]∈P:=List.getElem_mem hlt;rw[hx] at htk;generalize P[k]=x at hx hg htk hmem
    repeat' (first|exact⟨⟩|refine sp ?_|refine aH (λ_=>?_) (λ_=>?_)|((with_reducible refine And.intro ?_ ?_);((first|omega|decide))))
    .rename_i hb;have:(P.all λy=>!decide ((24:Int)<y.length))=false:=by
      rw[List.all_eq_false];exact⟨x,hmem,by rw[hb];decide⟩
     rw[this];exact⟨.inr ⟨_,rfl⟩,rfl⟩
    .rename_i hb hn;have hn':x≠[]:=by simpa using hn
     exact dN (k+1,out++[x]) 0 2 ⟨by omega,by rw[htk];simp[hal,hb],by rw[htk,List.filter_append,hfo];simp[hn']⟩ (by simp only;omega) rfl rfl (aB rfl rfl rfl wkS)
    .rename_i hb hn;have hn':x=[]:=by simpa using hn
     exact dE (k+1,out) ⟨by omega,by rw[htk];simp[hal,hb],by rw[htk,List.filter_append,hfo];simp[hn']⟩ (by simp only;omega) (aB rfl rfl rfl wkS)
   .have h1:decide ((k:Int)<(P.length:Int))=false:=decide_eq_false (by omega);rw[List.take_of_length_le (by omega)] at hal hfo;rw[hal,if_pos rfl,hfo]
    repeat' (first|exact⟨⟩|refine sp ?_)
    all_goals first|exact .inl rfl|rw[List.take_of_length_le (by omega)]
 .rw[if_pos (by rfl)];refine eT func178 λX0 hX=>?_;simp only[f178,go_sem]
  repeat' (first|exact⟨⟩|refine sp ?_)
  all_goals exact .inr ⟨_,rfl⟩
end Go.Proofs.YtflcjdohmojepaaGreatDoor
end
section
namespace Go.Dm
open Go
theorem zQ4{P:Program}{f:FuncId}{h:aD}{i:Nat}{c0 c1:List CV}{x y:PV}{r:DV}{K:DV->aD->Prop}
  (hc:aA P f [.c (.ptr 0 0),.c (.p x),.c (.p y)] [.box c0] λd h'=>d=r/\h'=[.box c1])
  (h0:h[i]?=some (.box c0))(hd:(c0.all JX && (c1.all JX && zDO r))=true)(hk:K r (h.set i (.box c1))):
  aA P f [.c (.ptr i 0),.c (.p x),.c (.p y)] h K:=aA.box (ps:=[x,y]) hc h0 hd hk
end Go.Dm
end
