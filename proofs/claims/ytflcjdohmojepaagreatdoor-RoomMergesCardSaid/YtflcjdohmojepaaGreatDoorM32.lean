/- Part 33 of the proof of roomMerges_card, set without needless blanks. No condition. -/
import Derived.Test.YtflcjdohmojepaaGreatDoorM31
import Derived.Ground.SlsfProg
import Derived.Shelf.SlSortCmp.WholeK
import Derived.Shelf.SlSortCmp.NoneTotal
set_option linter.all false
set_option maxRecDepth 100000
set_option maxHeartbeats 16000000
section
namespace Go.Proofs.YtflcjdohmojepaaGreatDoor
open Go Go.Dm Go.Proofs Go.Proofs.Tryz
def zCJ(r:Rm):aD:=[.box [.own 4 0 r.N.length,.own 2 0 r.L.length,.mp 3,.p (.i .i64 r.x)],.dead,.arr 4 (dA r.L) false,.mp (oZ r.E),.arr 2 (bS r.N) false]
attribute [go_sem] zCJ
theorem zMN{h:aD}{id jd n i:Nat}{es:List (List PV)}{x:List PV}{K:DV->aD->Prop}(hid:h[id]?=some (.arr 2 es false))(hjd:h[jd]?=some (.arr 2 [x] false))(hne:id≠jd)(hn:n<=es.length)(hin:i<=n)(hn2:n<=1000000)
  (hk:K (.c (.own (h.length+1) 0 (n+1))) (h.set id .dead++[.dead,.arr 2 (fZ i x (es.take n)) false])):
  aA prog 101 [.c (.own id 0 n),.c (.p (.i .i64 i)),.c (.own jd 0 1)] h K :=
 aA.mono (zMM hid hjd hne hn hin hn2) (by rintro _ _ ⟨rfl,rfl⟩;exact hk)
theorem zGc(N:List Nm)(s:List UInt8):sX N s<=N.length:=by
 unfold sX;exact(List.takeWhile_sublist _).length_le
theorem TF{r:Rm}{s:List UInt8}{n:Int}(hl:r.N.length<=1000)(hs:NJ r.N):aA prog 46 [.c (.ptr 0 0),.c (.p (.s s)),.c (.p (.i .i64 n))] (bO r) λd h=>d=.tup []/\h=zCJ ⟨cE r.N s n,r.L,r.E,r.x⟩:=by
 have hf:=wT (r:=r) (s:=s) (Nat.le_trans hl (by decide)) hs;rcases zGe hs (s:=s) with⟨h1,h2⟩|⟨x,h1,h2,h3,h4⟩
 .rw [h1] at hf;have hle:=zGc r.N s;have hlen:=gC r.N;have hins:fZ (sX r.N s) [.s s,.i .i64 n] ((bS r.N).take r.N.length)=bS (cE r.N s n):=by
   rw[NR h1,<- hlen,List.take_length];simp[fZ,bS,List.map_take,List.map_drop]
  have hcl:(cE r.N s n).length=r.N.length+1:=by
   have:=congrArg List.length hins;rw[gC,<- hlen,List.take_length,BP (by omega)] at this;omega
  have hik:∀{h:aD} {jd:Nat} {K:DV->aD->Prop},h[1]?=some (.arr 2 (bS r.N) false)->h[jd]?=some (.arr 2 [[.s s,.i .i64 n]] false)->1≠jd->K (.c (.own (h.length+1) 0 (r.N.length+1))) (h.set 1 .dead++[.dead,.arr 2 (bS (cE r.N s n)) false])->aA prog 101 [.c (.own 1 0 r.N.length),.c (.p (.i .i64 (sX r.N s))),.c (.own jd 0 1)] h K:=λh0 h1 hne hk=>zMN h0 h1 hne (by omega) hle (by omega) (by rw[hins];exact hk)
  rw[<- hcl] at hik;generalize cE r.N s n=M at hik hcl ⊢;generalize sX r.N s=i at hf hle hik;clear hins h1 h2;refine aA.perm [0,1,2,3,6] (d1:=.tup []) (h1:=[.box [.own 6 0 M.length,.own 2 0 r.L.length,.mp 3,.p (.i .i64 r.x)],.dead,.arr 4 (dA r.L) false,.mp (oZ r.E),.arr 2 [[.s s,.i .i64 n]] false,.dead,.arr 2 (bS M) false]) ?_ rfl rfl (by unfold zCJ;exact hpK);refine xL aF aN func46 rfl rfl λX0 hX=>?_;simp only[f46,go_sem]
  repeat' (first|exact⟨⟩|refine sp ?_|refine uS [0,1,2,3] (hf) ?_|refine hik rfl rfl (by decide) ?_|refine ai ?_)
 .rw [h1] at hf;have hlt:=(List.getElem?_eq_some_iff.1 h3).1;have hg:=qY h3;have k2:(0:Int)<=(sX r.N s:Int):=by omega
  have k3:(sX r.N s:Int)<(r.N.length:Int):=by omega
  have hset:cE r.N s n=r.N.set (sX r.N s) ⟨x.n,n⟩:=by
   have:=pB hs (List.mem_of_getElem? h3) n;rw[h4] at this ⊢;exact this
  rw[hset];generalize sX r.N s=i at hf hlt hg k2 k3 ⊢;clear h1 h2 h3 hset;refine aA.perm [0,4,2,3,1] (d1:=.tup []) (h1:=bO ⟨r.N.set i ⟨x.n,n⟩,r.L,r.E,r.x⟩) ?_ rfl rfl (by unfold zCJ bO;exact hpK)
  have hsl:(r.N.set i ⟨x.n,n⟩).length=r.N.length:=List.length_set
  refine xL aF aN func46 rfl rfl λX0 hX=>?_;simp only[f46,go_sem]
  repeat' (first|exact⟨⟩|refine sp ?_|refine uS [0,1,2,3] (hf) ?_)
  all_goals rw[List.length_set]
theorem vC{r:Rm}{s:List UInt8}{i0 p q:Int}{es:List En}(hr:OkR r)(h3:OkR ⟨cE r.N s r.x,r.L++[⟨r.x,p,q,false⟩],oY r.E r.x es,r.x+1⟩)(hg:OkG (r.L++[⟨r.x,p,q,false⟩])):
  aA prog 47 [.c (.ptr 0 0),.c (.p (.s s)),.agg [.p (.i .i64 i0),.p (.i .i64 p),.p (.i .i64 q),.p (.b false)],.c (.p (.sl 7 (gG es)))] (bO r) λd h=>d=.tup []/\h=iD (zDa r s p q es):=by
 have hpu:=TF (r:=⟨r.N,r.L++[⟨r.x,p,q,false⟩],oY r.E r.x es,r.x+1⟩) (s:=s) (n:=r.x) (by have:=hr.nl;simp only;omega) hr.srt;have hcl:=zL1 h3 hg;have hx:=hr.x;have hll:=hr.ll;have w1:IntKind.i64.wrap (r.x+1)=r.x+1:=wrap_i64 (by omega) (by omega);unfold zDa;generalize zAa ⟨cE r.N s r.x,r.L++[⟨r.x,p,q,false⟩],oY r.E r.x es,r.x+1⟩=c at hcl ⊢;have hlp:(r.L++[(⟨r.x,p,q,false⟩:Ly)]).length=r.L.length+1:=by simp
 generalize cE r.N s r.x=M at hpu hcl;unfold zCJ bO at hpu;unfold bO at hcl;simp only[hlp] at hpu hcl;refine aA.perm [0,1,2,3,8,9,10] (d1:=.tup []) (h1:=[.box [.own 8 0 c.N.length,.own 9 0 c.L.length,.mp 10,.p (.i .i64 c.x)],.dead,.dead,.dead,.box [.p (.i .i64 r.x),.p (.i .i64 p),.p (.i .i64 q),.p (.b false)],.arr 4 [[.i .i64 r.x,.i .i64 p,.i .i64 q,.b false]] false,.dead,.dead,.arr 2 (bS c.N) false,.arr 4 (dA c.L) false,.mp (oZ c.E)]) ?_ rfl rfl (by unfold iD;exact hpK);clear h3 hg hr;refine xL aF aN func47 rfl rfl λX0 hX=>?_;simp only[f47,go_sem]
 repeat' (first|exact⟨⟩|refine sp ?_|refine uS [0,1,6,3] (hpu) ?_|refine uS [0,7,6,3] (hcl) ?_|((refine aG (id:=3) aF aN [6,7,10] [5,6,1,2,3,4,7,0,8,9,10] (by decide +kernel) ?_);(repeat' (first|(refine aT ?_)|((refine cK ?_ ?_ rfl rfl rfl ?_ ?_);(rotate_left 2);(focus ((repeat' (first|exact⟨⟩|refine sp ?_|((with_reducible refine And.intro ?_ ?_);((first|omega|decide)))));((refine And.intro ?_ ?_<;>exact rfl))));(simp only[aC,bH]))|((refine cJ ?_ rfl rfl rfl ?_ ?_);(rotate_left 1);(focus ((repeat' (first|exact bA|refine aW ?_ ?_));(all_goals ((repeat' (first|exact⟨⟩|refine sp ?_));(try (exact rfl))))));(simp only[aC])))))|((refine aG (id:=4) aF aN [7] [0,1,2,3,4,5,6,7] (by decide +kernel) ?_);(repeat' (first|(refine aT ?_)|((refine cK ?_ ?_ rfl rfl rfl ?_ ?_);(rotate_left 2);(focus ((repeat' (first|exact⟨⟩|refine sp ?_));((refine And.intro ?_ ?_<;>exact rfl))));(simp only[bH]))|((refine cJ ?_ rfl rfl rfl ?_ ?_);(rotate_left 1);(focus ((repeat' (first|exact bA|refine aW ?_ ?_));(all_goals ((repeat' (first|exact⟨⟩|refine sp ?_));(try (exact rfl))))));(simp only[aC]))))))
theorem zCI{r:Rm}{sn s:List UInt8}(hr:OkR r)(hs:s.length<=1000000000)
  (h3:((snP r sn).2==0)=true->(gY r s==0)=true->(iC r (snP r sn).1.i==0)=true->OkR ⟨cE r.N s r.x,r.L++[⟨r.x,(snP r sn).1.i,0,false⟩],oY r.E r.x [],r.x+1⟩/\OkG (r.L++[⟨r.x,(snP r sn).1.i,0,false⟩])):
  aA prog 11 [.c (.ptr 0 0),.c (.p (.s sn)),.c (.p (.s s))] (bO r) λd h=>d=.c (.p (.i .i64 (EP r sn s).2))/\h=iD (EP r sn s).1:=by
 have hsn:=zAV (s:=sn) hr;have hfr:=tK (s:=s) hr hs;have hdp:=rN (a:=(snP r sn).1.i) hr;have had:=λh1 h2=>vC (s:=s) (i0:=0) (p:=(snP r sn).1.i) (q:=0) (es:=[]) hr h1 h2;unfold EP;generalize snP r sn=y at *;obtain⟨⟨yi,yp,yq,yf⟩,e⟩:=y;simp only[Ly.cv] at *;generalize gY r s=e2 at *;generalize iC r yi=e3 at *;have bad:∀{c:List CV} {e:Int},aA prog 11 [.c (.ptr 0 0),.c (.p (.s sn)),.c (.p (.s s))] (bO r) (λd h=>d=.c (.p (.i .i64 e))/\h=bO r++[.box c])->aA prog 11 [.c (.ptr 0 0),.c (.p (.s sn)),.c (.p (.s s))] (bO r) (λd h=>d=.c (.p (.i .i64 e))/\h=iD r):=λ{c e} hc =>
  aA.perm [0,5,6,7,1,2,3] hc rfl rfl (by unfold iD bO;exact hpK)
 cases he:(e==0)
 .have hb:(e != 0)=true:=by rw[bne,he];rfl
  simp only[Bool.not_false,if_true];refine bad (c:=[.p (.i .i64 yi),.p (.i .i64 yp),.p (.i .i64 yq),.p (.b yf)]) ?_;clear had h3 hfr hdp;refine xL aF aN func11 rfl rfl λX0 hX=>?_;simp only[f11,go_sem]
  repeat' (first|exact⟨⟩|refine sp ?_|refine uS [0,1,2,3] (hsn) ?_)
 .have hb:(e != 0)=false:=by rw[bne,he];rfl
  simp only[Bool.not_true,Bool.false_eq_true,if_false];cases he2:(e2==0)
  .have hb2:(e2 != 0)=true:=by rw[bne,he2];rfl
   simp only[Bool.not_false,if_true];refine bad (c:=[.p (.i .i64 yi),.p (.i .i64 yp),.p (.i .i64 yq),.p (.b yf)]) ?_;clear had h3 hdp;refine xL aF aN func11 rfl rfl λX0 hX=>?_;simp only[f11,go_sem]
   repeat' (first|exact⟨⟩|refine sp ?_|refine uS [0,1,2,3] (hsn) ?_|refine uS [0,1,2,3] (hfr) ?_)
  .have hb2:(e2 != 0)=false:=by rw[bne,he2];rfl
   simp only[Bool.not_true,Bool.false_eq_true,if_false];cases he3:(e3==0)
   .have hb3:(e3 != 0)=true:=by rw[bne,he3];rfl
    simp only[Bool.not_false,if_true];refine bad (c:=[.p (.i .i64 yi),.p (.i .i64 yp),.p (.i .i64 yq),.p (.b yf)]) ?_;clear had h3;refine xL aF aN func11 rfl rfl λX0 hX=>?_;simp only[f11,go_sem]
    repeat' (first|exact⟨⟩|refine sp ?_|refine uS [0,1,2,3] (hsn) ?_|refine uS [0,1,2,3] (hfr) ?_|refine uS [0,1,2,3] (hdp) ?_)
   .have hb3:(e3 != 0)=false:=by rw[bne,he3];rfl
    simp only[Bool.not_true,Bool.false_eq_true,if_false];obtain⟨k1,k2⟩:=h3 he he2 he3;have hadd:=aA.wkA (args:=[.c (.ptr 0 0),.c (.p (.s s)),.agg [.p (.i .i64 0),.p (.i .i64 yi),.p (.i .i64 0),.p (.b false)],.c (.p .nil)]) (args':=[.c (.ptr 0 0),.c (.p (.s s)),.agg [.p (.i .i64 0),.p (.i .i64 yi),.p (.i .i64 0),.p (.b false)],.c (.p (.sl 7 (gG [])))]) ⟨rfl,zHN,⟨wkP.rfl,wkP.rfl,wkP.rfl,wkP.rfl,True.intro⟩,zHM,True.intro⟩ (had k1 k2);clear had h3 k1 k2;generalize zDa r s yi 0 []=c at hadd ⊢;refine aA.perm [0,1,2,3,5,6,7] (d1:=.c (.p (.i .i64 0))) (h1:=[.box [.own 5 0 c.N.length,.own 6 0 c.L.length,.mp 7,.p (.i .i64 c.x)],.dead,.dead,.dead,.box [.p (.i .i64 yi),.p (.i .i64 yp),.p (.i .i64 yq),.p (.b yf)],.arr 2 (bS c.N) false,.arr 4 (dA c.L) false,.mp (oZ c.E)]) ?_ rfl rfl (by unfold iD;exact hpK);refine xL aF aN func11 rfl rfl λX0 hX=>?_;simp only[f11,go_sem]
    repeat' (first|exact⟨⟩|refine sp ?_|refine uS [0,1,2,3] (hsn) ?_|refine uS [0,1,2,3] (hfr) ?_|refine uS [0,1,2,3] (hdp) ?_|refine uS [0,1,2,3] (hadd) ?_)
theorem zCK{r:Rm}:aA prog 24 [.c (.ptr 0 0)] (bO r) λd h=>d=.c (.p (.i .i64 r.x))/\h=bO r:=by
 refine eT func24 λX0 hX=>?_;simp only[f24,go_sem]
 repeat' (first|exact⟨⟩|refine sp ?_)
theorem NV{h:aD}{i n:Nat}{l:List Nm}{K:DV->aD->Prop}(hl:l.length<=1000000)(hn:n=l.length)(h0:h[i]?=some (.arr 2 (bS l) false))(hk:K (.c (.own h.length 0 l.length)) (h++[.arr 2 (bS l) false])):
  aA prog 55 [.c (.own i 0 n)] h K:=by
 refine zLG (by rw[hn,<- gC,List.take_length]) (zDH hl) h0 (by simp[uV,qB,jL,bS,vJ]) ?_;simpa[DV.sh,CV.sh,DB.sh,gC] using hk
theorem zH9{h:aD}{i n:Nat}{l:List Ly}{K:DV->aD->Prop}(hl:l.length<=1000000)(hn:n=l.length)(h0:h[i]?=some (.arr 4 (dA l) false))(hk:K (.c (.own h.length 0 l.length)) (h++[.arr 4 (dA l) false])):
  aA prog 56 [.c (.own i 0 n)] h K:=by
 refine zLG (by rw[hn,<- gH,List.take_length]) (zAb hl) h0 (by simp[uV,qB,jL,dA,vJ,Ly.cs]) ?_;simpa[DV.sh,CV.sh,DB.sh,gH] using hk
theorem DG{r:Rm}(hr:OkR r):aA prog 20 [.c (.ptr 0 0)] (bO r) λd h=>d=.c (.own 4 0 r.N.length)/\h=bO r++[.arr 2 (bS r.N) false]:=by
 have hnl:=hr.nl;have hk:∀{h:aD} {K:DV->aD->Prop},h[1]?=some (.arr 2 (bS r.N) false)->K (.c (.own h.length 0 r.N.length)) (h++[.arr 2 (bS r.N) false])->aA prog 55 [.c (.own 1 0 r.N.length)] h K:=λh0 hk=>NV (by omega) rfl h0 hk;refine xL aF aN func20 rfl rfl λX0 hX=>?_;simp only[f20,go_sem]
 repeat' (first|exact⟨⟩|refine sp ?_)
theorem zCM{r:Rm}{s:List UInt8}(hr:OkR r):aA prog 17 [.c (.ptr 0 0),.c (.p (.s s))] (bO r) λd h=>d=.tup [.c (.p (.sl 5 (aS (qJ r s).1))),.c (.p (.i .i64 (qJ r s).2))]/\h=bO r:=by
 have hly:=iM (s:=s) hr;have htr:=dH (a:=(bY r s).1.i) hr;unfold qJ;generalize bY r s=y at *;obtain⟨⟨yi,yp,yq,yf⟩,e⟩:=y;simp only[Ly.cv] at *;generalize treeR r yi=T at *;clear hr;refine aV ?_;cases he:(e==0)
 .have hb:(e != 0)=true:=by rw[bne,he];rfl
  simp only[Bool.not_false,if_true];refine eT func17 λX0 hX=>?_;simp only[f17,go_sem]
  repeat' (first|exact⟨⟩|refine sp ?_|refine uS [0,1,2,3] (hly) ?_)
  all_goals exact .inr ⟨5,rfl⟩
 .have hb:(e != 0)=false:=by rw[bne,he];rfl
  simp only[Bool.not_true,Bool.false_eq_true,if_false];refine eT func17 λX0 hX=>?_;simp only[f17,go_sem]
  repeat' (first|exact⟨⟩|refine sp ?_|refine uS [0,1,2,3] (hly) ?_|refine uS [0,1,2,3] (htr) ?_)
end Go.Proofs.YtflcjdohmojepaaGreatDoor
end
section
namespace Go.Proofs
open Go.Shelf Tryz
theorem qG{α:Type}{p:Option α}{x y:α}(h:p=some x)(e:x=y:=by kernel_rfl):p=some y:=h.trans (congrArg some e)
def Tryz.laysSlF06_f71_ren:Go.Shelf.Ren:=⟨λ| 6=>71 | 15=>122 | 14=>121 | 28=>175 | 29=>176 | 20=>167 | 21=>168 | 22=>169 | 23=>170 | 24=>171 | 25=>172 | 26=>173 | 27=>174 | 46=>232 | 47=>233 | 48=>234 | 49=>235 | 50=>236 | 57=>287|n=>n,λ| 22=>48 | 24=>135 | 25=>138 | 3=>3 | 39=>183 | 0=>0 | 53=>226 | 55=>148 | 4=>4 | 46=>220 | 45=>219 | 50=>165 | 5=>5 | 9=>9 | 66=>269 | 70=>273 | 76=>305 | 77=>267|n=>n,fun|n=>n⟩
theorem Tryz.laysSlF06_f71:Go.Proofs.SlLaysF0.n6 Tryz.prog Tryz.laysSlF06_f71_ren:=⟨by kernel_rfl,⟨Tryz.f71.name,by decide,qG func71⟩,⟨Tryz.f121.name,by decide,qG func121⟩,qG func122,⟨Tryz.f167.name,by decide,qG func167⟩,⟨Tryz.f168.name,by decide,qG func168⟩,⟨Tryz.f169.name,by decide,qG func169⟩,⟨Tryz.f170.name,by decide,qG func170⟩,⟨Tryz.f171.name,by decide,qG func171⟩,⟨Tryz.f172.name,by decide,qG func172⟩,⟨Tryz.f173.name,by decide,qG func173⟩,⟨Tryz.f174.name,by decide,qG func174⟩,qG func175,qG func176,⟨Tryz.f232.name,by decide,qG func232⟩,qG func233,qG func234,⟨Tryz.f235.name,by decide,qG func235⟩,⟨Tryz.f236.name,by decide,qG func236⟩,⟨Tryz.f287.name,by decide,qG func287⟩,underlying0,isAgg0,sizeOf0,zeroValue0,underlying3,isAgg3,sizeOf3,zeroValue3,underlying4,isAgg4,sizeOf4,zeroValue4,underlying5,isAgg5,sizeOf5,zeroValue5,underlying9,isAgg9,sizeOf9,zeroValue9,underlying48,isAgg48,sizeOf48,zeroValue48,underlying138,isAgg138,sizeOf138,zeroValue138,underlying183,isAgg183,sizeOf183,zeroValue183,underlying219,isAgg219,sizeOf219,zeroValue219,underlying220,isAgg220,sizeOf220,zeroValue220,underlying165,isAgg165,sizeOf165,zeroValue165,underlying226,isAgg226,sizeOf226,zeroValue226,underlying148,isAgg148,sizeOf148,zeroValue148,underlying269,isAgg269,sizeOf269,zeroValue269,underlying273,isAgg273,sizeOf273,zeroValue273,underlying305,isAgg305,sizeOf305,zeroValue305,underlying267,isAgg267,sizeOf267,zeroValue267⟩
def Tryz.laysSlF06_f91_ren:Go.Shelf.Ren:=⟨λ| 6=>91 | 15=>122 | 14=>137 | 28=>175 | 29=>176 | 20=>194 | 21=>195 | 22=>196 | 23=>197 | 24=>198 | 25=>199 | 26=>200 | 27=>201 | 46=>250 | 47=>233 | 48=>234 | 49=>251 | 50=>252 | 57=>301|n=>n,λ| 22=>27 | 24=>84 | 25=>158 | 3=>3 | 39=>183 | 0=>0 | 53=>226 | 55=>148 | 4=>4 | 46=>220 | 45=>219 | 50=>165 | 5=>5 | 9=>9 | 66=>269 | 70=>273 | 76=>305 | 77=>267|n=>n,fun|n=>n⟩
theorem Tryz.laysSlF06_f91:Go.Proofs.SlLaysF0.n6 Tryz.prog Tryz.laysSlF06_f91_ren:=⟨by kernel_rfl,⟨Tryz.f91.name,by decide,qG func91⟩,⟨Tryz.f137.name,by decide,qG func137⟩,qG func122,⟨Tryz.f194.name,by decide,qG func194⟩,⟨Tryz.f195.name,by decide,qG func195⟩,⟨Tryz.f196.name,by decide,qG func196⟩,⟨Tryz.f197.name,by decide,qG func197⟩,⟨Tryz.f198.name,by decide,qG func198⟩,⟨Tryz.f199.name,by decide,qG func199⟩,⟨Tryz.f200.name,by decide,qG func200⟩,⟨Tryz.f201.name,by decide,qG func201⟩,qG func175,qG func176,⟨Tryz.f250.name,by decide,qG func250⟩,qG func233,qG func234,⟨Tryz.f251.name,by decide,qG func251⟩,⟨Tryz.f252.name,by decide,qG func252⟩,⟨Tryz.f301.name,by decide,qG func301⟩,underlying0,isAgg0,sizeOf0,zeroValue0,underlying3,isAgg3,sizeOf3,zeroValue3,underlying4,isAgg4,sizeOf4,zeroValue4,underlying5,isAgg5,sizeOf5,zeroValue5,underlying9,isAgg9,sizeOf9,zeroValue9,underlying27,isAgg27,sizeOf27,zeroValue27,underlying158,isAgg158,sizeOf158,zeroValue158,underlying183,isAgg183,sizeOf183,zeroValue183,underlying219,isAgg219,sizeOf219,zeroValue219,underlying220,isAgg220,sizeOf220,zeroValue220,underlying165,isAgg165,sizeOf165,zeroValue165,underlying226,isAgg226,sizeOf226,zeroValue226,underlying148,isAgg148,sizeOf148,zeroValue148,underlying269,isAgg269,sizeOf269,zeroValue269,underlying273,isAgg273,sizeOf273,zeroValue273,underlying305,isAgg305,sizeOf305,zeroValue305,underlying267,isAgg267,sizeOf267,zeroValue267⟩
def Tryz.laysSlF06_f214_ren:Go.Shelf.Ren:=⟨λ| 6=>214 | 15=>122 | 14=>260 | 28=>175 | 29=>176 | 20=>305 | 21=>306 | 22=>307 | 23=>308 | 24=>309 | 25=>310 | 26=>311 | 27=>312 | 46=>328 | 47=>233 | 48=>234 | 49=>329 | 50=>330 | 57=>338|n=>n,λ| 22=>35 | 24=>108 | 25=>259 | 3=>3 | 39=>183 | 0=>0 | 53=>226 | 55=>148 | 4=>4 | 46=>220 | 45=>219 | 50=>165 | 5=>5 | 9=>9 | 66=>269 | 70=>273 | 76=>305 | 77=>267|n=>n,fun|n=>n⟩
theorem Tryz.laysSlF06_f214:Go.Proofs.SlLaysF0.n6 Tryz.prog Tryz.laysSlF06_f214_ren:=⟨by kernel_rfl,⟨Tryz.f214.name,by decide,qG func214⟩,⟨Tryz.f260.name,by decide,qG func260⟩,qG func122,⟨Tryz.f305.name,by decide,qG func305⟩,⟨Tryz.f306.name,by decide,qG func306⟩,⟨Tryz.f307.name,by decide,qG func307⟩,⟨Tryz.f308.name,by decide,qG func308⟩,⟨Tryz.f309.name,by decide,qG func309⟩,⟨Tryz.f310.name,by decide,qG func310⟩,⟨Tryz.f311.name,by decide,qG func311⟩,⟨Tryz.f312.name,by decide,qG func312⟩,qG func175,qG func176,⟨Tryz.f328.name,by decide,qG func328⟩,qG func233,qG func234,⟨Tryz.f329.name,by decide,qG func329⟩,⟨Tryz.f330.name,by decide,qG func330⟩,⟨Tryz.f338.name,by decide,qG func338⟩,underlying0,isAgg0,sizeOf0,zeroValue0,underlying3,isAgg3,sizeOf3,zeroValue3,underlying4,isAgg4,sizeOf4,zeroValue4,underlying5,isAgg5,sizeOf5,zeroValue5,underlying9,isAgg9,sizeOf9,zeroValue9,underlying35,isAgg35,sizeOf35,zeroValue35,underlying259,isAgg259,sizeOf259,zeroValue259,underlying183,isAgg183,sizeOf183,zeroValue183,underlying219,isAgg219,sizeOf219,zeroValue219,underlying220,isAgg220,sizeOf220,zeroValue220,underlying165,isAgg165,sizeOf165,zeroValue165,underlying226,isAgg226,sizeOf226,zeroValue226,underlying148,isAgg148,sizeOf148,zeroValue148,underlying269,isAgg269,sizeOf269,zeroValue269,underlying273,isAgg273,sizeOf273,zeroValue273,underlying305,isAgg305,sizeOf305,zeroValue305,underlying267,isAgg267,sizeOf267,zeroValue267⟩
open Go.RowKit Go.Lib Go.Sort in
theorem Tryz.slices_SortFunc_f71{α:Type}[Inhabited α](k:Nat)(aE:∀w,(isAgg 135).run Tryz.prog w=.ok true w)(zE:∀w,(Go.sizeOf 135).run Tryz.prog w=.ok k w)(enc:α->List Value)(hk:∀x,(enc x).length=k)(h1:∀x,∀v∈enc x,v.oneCell'=true)(cf:α->α->Int)(hO:SWO (ltOf cf))(g:Nat)(cb:Array Value)(blk off cap:Nat)(d:Array α)(w:World)(eg:∀args w,(callFunc g args).run Tryz.prog w=.ok (.enter g args) w)(hcmp:CmpLays Tryz.prog g cb enc k cf blk off d.size w)(hH:HoldsK enc k w blk off d)(hblk:blk<w.heap.size)(hsz:d.size<4611686018427387904):
  Calls Tryz.prog 71 #[.slice (some ⟨blk,off,none⟩) d.size cap,.func (.func g) #[] cb] w λe w' =>
   e=.returned (.tuple #[])/\∃d' n os,PermIn 0 d.size d d'/\SortedIn (ltOf cf) 0 d.size d'/\w'=sortWorldK enc k w blk off n d' os:=AnyQ.slices_SortFunc Tryz.laysSlF06_f71 k aE zE enc hk h1 cf hO g cb blk off cap d w eg hcmp hH hblk hsz
open Go.RowKit Go.Lib Go.Sort in
theorem Tryz.slices_SortFunc_f91{α:Type}[Inhabited α](k:Nat)(aE:∀w,(isAgg 84).run Tryz.prog w=.ok true w)(zE:∀w,(Go.sizeOf 84).run Tryz.prog w=.ok k w)(enc:α->List Value)(hk:∀x,(enc x).length=k)(h1:∀x,∀v∈enc x,v.oneCell'=true)(cf:α->α->Int)(hO:SWO (ltOf cf))(g:Nat)(cb:Array Value)(blk off cap:Nat)(d:Array α)(w:World)(eg:∀args w,(callFunc g args).run Tryz.prog w=.ok (.enter g args) w)(hcmp:CmpLays Tryz.prog g cb enc k cf blk off d.size w)(hH:HoldsK enc k w blk off d)(hblk:blk<w.heap.size)(hsz:d.size<4611686018427387904):
  Calls Tryz.prog 91 #[.slice (some ⟨blk,off,none⟩) d.size cap,.func (.func g) #[] cb] w λe w' =>
   e=.returned (.tuple #[])/\∃d' n os,PermIn 0 d.size d d'/\SortedIn (ltOf cf) 0 d.size d'/\w'=sortWorldK enc k w blk off n d' os:=AnyQ.slices_SortFunc Tryz.laysSlF06_f91 k aE zE enc hk h1 cf hO g cb blk off cap d w eg hcmp hH hblk hsz
open Go.RowKit Go.Lib Go.Sort in
theorem Tryz.slices_SortFunc_f214{α:Type}[Inhabited α](k:Nat)(aE:∀w,(isAgg 108).run Tryz.prog w=.ok true w)(zE:∀w,(Go.sizeOf 108).run Tryz.prog w=.ok k w)(enc:α->List Value)(hk:∀x,(enc x).length=k)(h1:∀x,∀v∈enc x,v.oneCell'=true)(cf:α->α->Int)(hO:SWO (ltOf cf))(g:Nat)(cb:Array Value)(blk off cap:Nat)(d:Array α)(w:World)(eg:∀args w,(callFunc g args).run Tryz.prog w=.ok (.enter g args) w)(hcmp:CmpLays Tryz.prog g cb enc k cf blk off d.size w)(hH:HoldsK enc k w blk off d)(hblk:blk<w.heap.size)(hsz:d.size<4611686018427387904):
  Calls Tryz.prog 214 #[.slice (some ⟨blk,off,none⟩) d.size cap,.func (.func g) #[] cb] w λe w' =>
   e=.returned (.tuple #[])/\∃d' n os,PermIn 0 d.size d d'/\SortedIn (ltOf cf) 0 d.size d'/\w'=sortWorldK enc k w blk off n d' os:=AnyQ.slices_SortFunc Tryz.laysSlF06_f214 k aE zE enc hk h1 cf hO g cb blk off cap d w eg hcmp hH hblk hsz
open Go.RowKit Go.Lib Go.Sort in
theorem Tryz.slices_SortFunc_none_f71{α:Type}[Inhabited α](p:Option Addr)(cap:Nat)(fv:Value)(w:World):
  Calls Tryz.prog 71 #[.slice p 0 cap,fv] w λe w'=>e=.returned (.tuple #[])/\w'=w:=AnyF.slices_SortFunc_none Tryz.laysSlF06_f71 p cap fv w
open Go.RowKit Go.Lib Go.Sort in
theorem Tryz.slices_SortFunc_none_f91{α:Type}[Inhabited α](p:Option Addr)(cap:Nat)(fv:Value)(w:World):
  Calls Tryz.prog 91 #[.slice p 0 cap,fv] w λe w'=>e=.returned (.tuple #[])/\w'=w:=AnyF.slices_SortFunc_none Tryz.laysSlF06_f91 p cap fv w
open Go.RowKit Go.Lib Go.Sort in
theorem Tryz.slices_SortFunc_none_f214{α:Type}[Inhabited α](p:Option Addr)(cap:Nat)(fv:Value)(w:World):
  Calls Tryz.prog 214 #[.slice p 0 cap,fv] w λe w'=>e=.returned (.tuple #[])/\w'=w:=AnyF.slices_SortFunc_none Tryz.laysSlF06_f214 p cap fv w
end Go.Proofs
end
section
namespace Go.Proofs.YtflcjdohmojepaaGreatDoor
open Go Go.Dm Go.Proofs Go.Proofs.Tryz
theorem QJ{t:List It}{p:List UInt8}{i:Nat}(hs:Srt t)(h:JL t p i):gO t p i=(aM t p).isSome:=by
 cases hf:gO t p i
 .rw[WY hs h hf];rfl
 .unfold gO at hf;cases hx:t[i]? with
  | none=>rw[hx] at hf;cases hf
  | some x=>rw[hx] at hf;rw[KP hs hx hf];rfl
def zJK(t:List It)(a b:List UInt8):Int :=
 if a == [] || b == [] || !bW a || !bW b then 1 else if !(aM t a).isSome then 6 else if aO a b then 18 else if (aM t b).isSome then 7 else if !bC t (aU b) then 9 else 0
theorem zFT{t:List It}{a b:List UInt8}(ht:t.length<=1000000)(hs:Srt t)(ha:a.length<=1000000000)(hb:b.length<=1000000000):
  aA prog 291 [.c (.p (.sl 5 (aS t))),.c (.p (.s a)),.c (.p (.s b))] [] λr h=>r=.c (.p (.i .i64 (zJK t a b)))/\h=[]:=by
 have hdir:=eR (t:=t) (p:=aU b) ht hs;have hpa:=fT ha;have hpb:=fT hb;unfold zJK;generalize bW a=pa at *;generalize bW b=pb at *;generalize bC t (aU b)=db at *;refine eT func291 λX0 hX=>?_;simp only[f291,go_sem]
 repeat' (first|exact⟨⟩|refine sp ?_)
 refine zHt (QF ht hs) rfl (λ_ _=>rfl) λi hi=>?_;unfold nU;rw[QJ hs hi];generalize (aM t a).isSome=ga
 repeat' (first|exact⟨⟩|refine sp ?_)
 refine zHt (QF ht hs) rfl (λ_ _=>rfl) λj hj=>?_;unfold nU;rw[QJ hs hj];generalize (aM t b).isSome=gb;cases pa<;>cases pb<;>cases ga<;>cases gb<;>cases db
 all_goals repeat' (first|exact⟨⟩|refine sq ?_|refine uF (hpa) ?_|refine uF (hpb) ?_|refine uF (cQ ha) ?_|refine uF (dV hb) ?_|refine uF (hdir) ?_|with_reducible refine aH (λ_=>?_) (λ_=>?_)|with_reducible refine aY (λ_=>?_) (λ_=>?_))
 all_goals simp_all
theorem zM2{q q':List UInt8}{k k' m m':Int}{t t':Nat}{d d':List UInt8}:
  aA prog 292 [.agg [.p (.s q),.p (.i .i64 k),.p (.i .i64 m),.p (.f t),.p (.sl 1 (bU d))],.agg [.p (.s q'),.p (.i .i64 k'),.p (.i .i64 m'),.p (.f t'),.p (.sl 1 (bU d'))]] [] λr h=>r=.c (.p (.i .i64 (ED q q')))/\h=[]:=by
 refine eT func292 λX0 hX=>?_;simp only[f292,go_sem]
 repeat' (first|exact⟨⟩|refine sp ?_|refine uF (lV) ?_)
theorem zNx{h:aD}{id:Nat}{l:List It}(hu:∀x∈l,∀y∈l,x.p=y.p->x=y)(hid:h[id]?=some (.arr 5 (aS l) false))(hsz:l.length<4611686018427387904):
  aA prog 91 [.c (.own id 0 l.length),.c (.clo 292 [])] h λd h'=>d=.tup []/\h'=h.set id (.arr 5 (aS (gN l)) false):=by
 have:=lO (P:=prog) (f:=91) (g:=292) 5 (by decide) cfI ZF
  (enters Tryz.func91 rfl rfl) (enters_of func292 (by kernel_rfl) rfl)
  (λenc hk h1 c hO blk off cap d w hcmp hH hblk hsz=>Tryz.slices_SortFunc_f91 5 Tryz.isAgg84 Tryz.sizeOf84 enc hk h1 c hO 292 #[] blk off cap d w (enters_of func292 (by kernel_rfl) rfl) hcmp hH hblk hsz)
  (λp cap fv w=>Tryz.slices_SortFunc_none_f91 (α:=Nat) p cap fv w)
  (h:=h) (i0:=id) (es:=aS l) (λx hx y hy=>by
   obtain⟨a,_,rfl⟩:=List.mem_map.1 hx;obtain⟨b,_,rfl⟩:=List.mem_map.1 hy;exact zM2) (NS hu) hid (by rw[cN];exact hsz)
 rw[PZ,cN] at this;exact this
theorem zNy{h:aD}{id:Nat}{l:List It}{K:DV->aD->Prop}(hu:∀x∈l,∀y∈l,x.p=y.p->x=y)(hsz:l.length<4611686018427387904)(hid:h[id]?=some (.arr 5 (aS l) false))(hk:K (.tup []) (h.set id (.arr 5 (aS (gN l)) false))):
  aA prog 91 [.c (.own id 0 l.length),.c (.clo 292 [])] h K :=
 aA.mono (zNx hu hid hsz) (by rintro _ _ ⟨rfl,rfl⟩;exact hk)
end Go.Proofs.YtflcjdohmojepaaGreatDoor
end
section
namespace Go.Dm
open Go Go.Proofs Go.Sort
section
variable {t w:List It}{x:It}{l:List En}
def KZ(t w:List It)(p:List UInt8):Bool:=t.any λy=>aO p y.p && (aM w y.p).isSome
def sY(t w:List It)(p:List UInt8):Bool:=bC w p && (bC t p && (!decide (((iG t p).length:Int)<2) && !KZ t w p))
theorem zB2(t w:List It)(p:List UInt8):KZ t w p=VA t w p:=by grind [KZ,VA]
theorem zOY(hx:x∈w)(h:zJY t w x=true):isB (lD t w) x.p=true :=
 List.any_eq_true.2 ⟨x.p,List.mem_map.2 ⟨x,List.mem_filter.2 ⟨hx,h⟩,rfl⟩,beq_self_eq_true _⟩
theorem GR(hw:OkT w)(hx:x∈w):((x.n.k==2) && sY t w x.p)=isB (lD t w) x.p:=by
 have h0:(x.p == [])=false:=by simpa using hw.ne x hx
 have h1:bC w x.p=(x.n.k==2):=by
  unfold bC;rw[cP hw.srt hx,h0,Bool.false_or]
 grind [sY,zJY,zFl,zB2,zOY,LO]
def zQx(t w:List It)(q:List UInt8):Bool:=!(aM w q).isSome || (!bC w q || sY t w q)
theorem zOS(hw:OkT w){q:List UInt8}(hq:q≠[]):zQx t w q=(!(aM w q).isSome || (((aM w q).getD nd0).k != 2 || isB (lD t w) q)):=by grind [zQx,cB,bC,GR]
def zAs(t w:List It):List En:=(t.filter λy=>!(aM w y.p).isSome && !NG w (lD t w) y.p).map λy=>mB y.p
def oE(t w:List It):List En:=jE t (lD t w) w++zAs t w
theorem BX(ht:OkT t)(hw:OkT w)(e:En):e∈eF t w↔e∈oE t w:=by grind [oF,oE,zAs]
theorem wZ(h:zBc l):l.Nodup:=h.imp λ{a b} h e=>by subst e;rw[cF] at h;cases h
theorem XR(ht:OkT t)(hw:OkT w):(oE t w).Nodup:=by
 unfold oE;refine List.nodup_append.2 ⟨wZ (SJ hw.srt),?_,λa ha b hb e=>?_⟩
 .have:(zAs t w).Pairwise λx y=>cD x.p y.p=true:=List.pairwise_map.2 ((ht.srt.filter _).imp λh=>h);exact wZ this
 .obtain⟨x,hx,rfl⟩:=kQ ha;obtain⟨y,_,rfl⟩:=List.mem_map.1 hb;injection e with _ h _ _;cases h
def leE(x y:En):Bool:=!cD y.p x.p
def FB(l:List En):List En:=l.mergeSort leE
theorem wX(l:List En):(FB l).Perm l:=List.mergeSort_perm _ _
theorem zG4(l:List En):(FB l).length=l.length:=List.length_mergeSort ..
theorem TW(l:List En):(FB l).Pairwise λx y=>cD y.p x.p=false:=by grind [FB,leE,List.pairwise_mergeSort,cL,eI,eS]
theorem zDD(hu:∀x∈l,∀y∈l,x.p=y.p->x=y):∀x∈gG l,∀y∈gG l,ltOf cfI x y=false->ltOf cfI y x=false->x=y:=by
 rw[RG];intro x hx y hy h k;obtain⟨a,ha,rfl⟩:=List.mem_map.1 hx;obtain⟨b,hb,rfl⟩:=List.mem_map.1 hy;rw[hu a ha b hb (eI h k)]
theorem zEu(l:List En):(gG l).mergeSort (VT (ltOf cfI))=gG (FB l):=by
 rw[RG];exact(List.map_mergeSort (r:=leE) (s:=VT zO5) (f:=En.cs) (l:=l) λa _ b _=>rfl).symm
theorem RH(ht:OkT t)(hw:OkT w):∀x∈oE t w,∀y∈oE t w,x.p=y.p->x=y :=
 λx hx y hy e=>MU (oF ht hw).1 x ((BX ht hw x).2 hx) y ((BX ht hw y).2 hy) e
theorem zFS(ht:OkT t)(hw:OkT w):FB (oE t w)=eF t w:=by
 obtain ⟨hs,_⟩:=oF ht hw;have hinj:=RH ht hw;have hnd:(FB (oE t w)).Nodup:=(wX _).nodup_iff.2 (XR ht hw);have hstrict:(FB (oE t w)).Pairwise λx y=>cD x.p y.p=true:=by
  refine((TW (oE t w)).and hnd).imp_of_mem λ{a b} ha hb h=>?_;grind [wX,eI]
 exact List.Perm.eq_of_pairwise (le:=λ(x y:En)=>cD x.p y.p=true) (λ_ _ _ _ h k=>by rw[eS h] at k;cases k) hstrict hs
  ((List.perm_ext_iff_of_nodup hnd (wZ hs)).2 λe=>(wX _).mem_iff.trans (BX ht hw e).symm)
end
end Go.Dm
end
