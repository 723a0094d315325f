/- Part 36 of the proof of roomAsks_card, set without needless blanks. No condition. -/
import Derived.Test.YtlbfnbldeefgmaaGreatDoorA34
import Derived.Ground.SlsfProg
import Derived.Shelf.SlSortCmp.WholeK
import Derived.Shelf.SlSortCmp.NoneTotal
set_option linter.all false
section
namespace Go.Proofs.YtlbfnbldeefgmaaGreatDoor
open Go Go.Dm Go.Proofs
set_option maxRecDepth 100000
set_option maxHeartbeats 8000000
def zAx (r:Rm):aC:=[.box [.own 4 0 r.N.length,.own 2 0 r.L.length,.mp 3,.p (.i .i64 r.x)],.dead,.arr 4 (cZ r.L) false,.mp (oL r.E),.arr 2 (bM r.N) false]
attribute [go_sem] zAx
theorem zJF {h:aC} {id jd n i:Nat} {es:List (List PV)} {x:List PV} {K:DV→aC→Prop} (hid:h[id]? = some (.arr 2 es false)) (hjd:h[jd]? = some (.arr 2 [x] false)) (hne:id≠jd) (hn:n≤es.length) (hin:i≤n) (hn2:n≤1000000)
  (hk:K (.c (.own (h.length+1) 0 (n+1))) (h.set id .dead++[.dead,.arr 2 (fA i x (es.take n)) false])):
  aA Tryz.prog 117 [.c (.own id 0 n),.c (.p (.i .i64 i)),.c (.own jd 0 1)] h K :=
 aA.mono (zJE hid hjd hne hn hin hn2) (by rintro _ _ ⟨rfl,rfl⟩;exact hk)
theorem zDH (N:List Nm) (s:List UInt8):pU N s≤N.length:=by
 unfold pU;exact (List.takeWhile_sublist _).length_le
theorem MY {r:Rm} {s:List UInt8} {n:Int} (hl:r.N.length≤1000) (hs:HQ r.N):aA Tryz.prog 56 [.c (.ptr 0 0),.c (.p (.s s)),.c (.p (.i .i64 n))] (cB r) fun d h=>d=.tup []∧h=zAx ⟨cE r.N s n,r.L,r.E,r.x⟩:=by
 have hf:=uA (r:=r) (s:=s) (Nat.le_trans hl (by decide)) hs;rcases zDJ hs (s:=s) with ⟨h1,h2⟩|⟨x,h1,h2,h3,h4⟩
 ·rw [h1] at hf;have hle:=zDH r.N s;have hlen:=fC r.N;have hins:fA (pU r.N s) [.s s,.i .i64 n] ((bM r.N).take r.N.length)=bM (cE r.N s n):=by
   rw [HY h1,← hlen,List.take_length];simp [fA,bM,List.map_take,List.map_drop]
  have hcl:(cE r.N s n).length=r.N.length+1:=by
   have:=congrArg List.length hins;rw [fC,← hlen,List.take_length,yE (by omega)] at this;omega
  have hik:∀ {h:aC} {jd:Nat} {K:DV→aC→Prop},h[1]? = some (.arr 2 (bM r.N) false)→h[jd]? = some (.arr 2 [[.s s,.i .i64 n]] false)→1≠jd→K (.c (.own (h.length+1) 0 (r.N.length+1))) (h.set 1 .dead++[.dead,.arr 2 (bM (cE r.N s n)) false])→aA Tryz.prog 117 [.c (.own 1 0 r.N.length),.c (.p (.i .i64 (pU r.N s))),.c (.own jd 0 1)] h K:=fun h0 h1 hne hk=>zJF h0 h1 hne (by omega) hle (by omega) (by rw [hins];exact hk)
  rw [← hcl] at hik;generalize cE r.N s n=M at hik hcl ⊢;generalize pU r.N s=i at hf hle hik;clear hins h1 h2;refine aA.perm [0,1,2,3,6] (d1:=.tup []) (h1:=[.box [.own 6 0 M.length,.own 2 0 r.L.length,.mp 3,.p (.i .i64 r.x)],.dead,.arr 4 (cZ r.L) false,.mp (oL r.E),.arr 2 [[.s s,.i .i64 n]] false,.dead,.arr 2 (bM M) false]) ?_ rfl rfl (by unfold zAx;exact (by simp only [iD,tL,kW,iC,rH];(repeat' (first|exact rfl|exact True.intro|refine And.intro ?_ ?_))));refine zFe aB aK Tryz.func56 rfl rfl fun X0 hX=>?_;simp only [Tryz.f56,go_sem]
  repeat' (first|simp only [*,go_sem,Nat.reduceLT,Nat.reduceLeDiff,Nat.reduceEqDiff,↓reduceIte,Nat.reduceAdd,Nat.reduceMul,]|((with_reducible refine bW [0,1,2,3] (hf) ?_ ?_ ?_ ?_);exact rfl;exact rfl;(focus ((simp only [go_sem];done))))|refine hik rfl rfl (by decide) ?_|((with_reducible refine And.intro ?_ ?_);decide))
 ·rw [h1] at hf;have hlt:=(List.getElem?_eq_some_iff.1 h3).1;have hg:=oM h3;have k2:(0:Int)≤(pU r.N s:Int):=by omega
  have k3:(pU r.N s:Int)<(r.N.length:Int):=by omega
  have hset:cE r.N s n=r.N.set (pU r.N s) ⟨x.n,n⟩:=by
   have:=wW hs (List.mem_of_getElem? h3) n;rw [h4] at this ⊢;exact this
  rw [hset];generalize pU r.N s=i at hf hlt hg k2 k3 ⊢;clear h1 h2 h3 hset;refine aA.perm [0,4,2,3,1] (d1:=.tup []) (h1:=cB ⟨r.N.set i ⟨x.n,n⟩,r.L,r.E,r.x⟩) ?_ rfl rfl (by unfold zAx cB;exact (by simp only [iD,tL,kW,iC,rH];(repeat' (first|exact rfl|exact True.intro|refine And.intro ?_ ?_))))
  have hsl:(r.N.set i ⟨x.n,n⟩).length=r.N.length:=List.length_set
  refine zFe aB aK Tryz.func56 rfl rfl fun X0 hX=>?_;simp only [Tryz.f56,go_sem]
  repeat' (first|simp only [*,go_sem,Nat.reduceLT,Nat.reduceLeDiff,Nat.reduceEqDiff,↓reduceIte,Nat.reduceAdd,]|((with_reducible refine bW [0,1,2,3] (hf) ?_ ?_ ?_ ?_);exact rfl;exact rfl;(focus ((simp only [go_sem];done)))))
  all_goals rw [List.length_set]
end Go.Proofs.YtlbfnbldeefgmaaGreatDoor
end
section
namespace Go.Proofs.YtlbfnbldeefgmaaGreatDoor
open Go Go.Dm Go.Proofs
set_option maxRecDepth 100000
set_option maxHeartbeats 8000000
theorem zEm {r:Rm} {s:List UInt8} {i0 p q:Int} {es:List En} (hr:OkR r) (h3:OkR ⟨cE r.N s r.x,r.L++[⟨r.x,p,q,false⟩],pZ r.E r.x es,r.x+1⟩) (hg:OkG (r.L++[⟨r.x,p,q,false⟩])):
  aA Tryz.prog 57 [.c (.ptr 0 0),.c (.p (.s s)),.agg [.p (.i .i64 i0),.p (.i .i64 p),.p (.i .i64 q),.p (.b false)],.c (.p (.sl 7 (fJ es)))] (cB r) fun d h=>d=.tup []∧h=BB (zKW r s p q es):=by
 have hpu:=MY (r:=⟨r.N,r.L++[⟨r.x,p,q,false⟩],pZ r.E r.x es,r.x+1⟩) (s:=s) (n:=r.x) (by have:=hr.nl;simp only;omega) hr.srt;have hcl:=zIV h3 hg;have hx:=hr.x;have hll:=hr.ll;have w1:IntKind.i64.wrap (r.x+1)=r.x+1:=wrap_i64 (by omega) (by omega);unfold zKW;generalize TX ⟨cE r.N s r.x,r.L++[⟨r.x,p,q,false⟩],pZ r.E r.x es,r.x+1⟩=c at hcl ⊢;have hlp:(r.L++[(⟨r.x,p,q,false⟩:Ly)]).length=r.L.length+1:=by simp
 generalize cE r.N s r.x=M at hpu hcl;unfold zAx cB at hpu;unfold cB at hcl;simp only [hlp] at hpu hcl;refine aA.perm [0,1,2,3,8,9,10] (d1:=.tup []) (h1:=[.box [.own 8 0 c.N.length,.own 9 0 c.L.length,.mp 10,.p (.i .i64 c.x)],.dead,.dead,.dead,.box [.p (.i .i64 r.x),.p (.i .i64 p),.p (.i .i64 q),.p (.b false)],.arr 4 [[.i .i64 r.x,.i .i64 p,.i .i64 q,.b false]] false,.dead,.dead,.arr 2 (bM c.N) false,.arr 4 (cZ c.L) false,.mp (oL c.E)]) ?_ rfl rfl (by unfold BB;exact (by simp only [iD,tL,kW,iC,rH];(repeat' (first|exact rfl|exact True.intro|refine And.intro ?_ ?_))));clear h3 hg hr;refine zFe aB aK Tryz.func57 rfl rfl fun X0 hX=>?_;simp only [Tryz.f57,go_sem]
 repeat' (first|simp only [*,go_sem,Nat.reduceLT,Nat.reduceLeDiff,Nat.reduceEqDiff,↓reduceIte,Nat.reduceAdd,Nat.reduceSub,]|((with_reducible refine bW [0,1,6,3] (hpu) ?_ ?_ ?_ ?_);exact rfl;exact rfl;(focus ((simp only [go_sem];done))))|((with_reducible refine bW [0,7,6,3] (hcl) ?_ ?_ ?_ ?_);exact rfl;exact rfl;(focus ((simp only [go_sem];done))))|((refine aN (id:=3) aB aK [6,7,10] [5,6,1,2,3,4,7,0,8,9,10] (by decide +kernel) ?_);(repeat' (first|(refine aT ?_)|((refine cV ?_ ?_ rfl rfl rfl ?_ ?_);(rotate_left 2);(focus ((repeat' (first|simp only [*,go_sem,Nat.reduceLT,Nat.reduceLeDiff,Nat.reduceEqDiff,↓reduceIte,Nat.reduceAdd,Nat.reduceMul,Nat.reduceBEq,]|((with_reducible refine And.intro ?_ ?_);((first|omega|decide)))));((refine And.intro ?_ ?_ <;> exact rfl))));(simp only [aG,bI]))|((refine cU ?_ rfl rfl rfl ?_ ?_);(rotate_left 1);(focus ((repeat' (first|exact bG|refine aZ ?_ ?_));(all_goals ((repeat' (simp only [*,go_sem,Nat.reduceLT,Nat.reduceLeDiff,Nat.reduceEqDiff,↓reduceIte,Nat.reduceAdd,]));(try (exact rfl))))));(simp only [aG])))))|((refine aN (id:=4) aB aK [7] [0,1,2,3,4,5,6,7] (by decide +kernel) ?_);(repeat' (first|(refine aT ?_)|((refine cV ?_ ?_ rfl rfl rfl ?_ ?_);(rotate_left 2);(focus ((repeat' (simp only [*,go_sem,Nat.reduceEqDiff,↓reduceIte,]));((refine And.intro ?_ ?_ <;> exact rfl))));(simp only [bI]))|((refine cU ?_ rfl rfl rfl ?_ ?_);(rotate_left 1);(focus ((repeat' (first|exact bG|refine aZ ?_ ?_));(all_goals ((repeat' (simp only [*,go_sem,Nat.reduceLT,Nat.reduceEqDiff,↓reduceIte,]));(try (exact rfl))))));(simp only [aG]))))))
end Go.Proofs.YtlbfnbldeefgmaaGreatDoor
end
section
namespace Go.Proofs
open Go.Shelf
def Tryz.laysSlF06_f155_ren:Go.Shelf.Ren:=⟨fun | 6=>155 | 15=>219 | 14=>218 | 28=>271 | 29=>272 | 20=>263 | 21=>264 | 22=>265 | 23=>266 | 24=>267 | 25=>268 | 26=>269 | 27=>270 | 46=>319 | 47=>320 | 48=>321 | 49=>322 | 50=>323 | 57=>372|n=>n,fun | 22=>40 | 24=>130 | 25=>218 | 3=>3 | 39=>273 | 0=>0 | 53=>301 | 55=>185 | 4=>4 | 46=>295 | 45=>294 | 50=>167 | 5=>5 | 9=>9 | 66=>332 | 70=>336 | 76=>367 | 77=>321|n=>n,fun|n=>n⟩
theorem Tryz.laysSlF06_f155:Go.Proofs.SlLaysF0.n6 Tryz.prog Tryz.laysSlF06_f155_ren:={
 mixed:=by kernel_rfl
 f6:=⟨Tryz.f155.name,by decide,Tryz.func155.trans (congrArg some (by kernel_rfl))⟩
 f14:=⟨Tryz.f218.name,by decide,Tryz.func218.trans (congrArg some (by kernel_rfl))⟩
 f15:=Tryz.func219.trans (congrArg some (by kernel_rfl))
 f20:=⟨Tryz.f263.name,by decide,Tryz.func263.trans (congrArg some (by kernel_rfl))⟩
 f21:=⟨Tryz.f264.name,by decide,Tryz.func264.trans (congrArg some (by kernel_rfl))⟩
 f22:=⟨Tryz.f265.name,by decide,Tryz.func265.trans (congrArg some (by kernel_rfl))⟩
 f23:=⟨Tryz.f266.name,by decide,Tryz.func266.trans (congrArg some (by kernel_rfl))⟩
 f24:=⟨Tryz.f267.name,by decide,Tryz.func267.trans (congrArg some (by kernel_rfl))⟩
 f25:=⟨Tryz.f268.name,by decide,Tryz.func268.trans (congrArg some (by kernel_rfl))⟩
 f26:=⟨Tryz.f269.name,by decide,Tryz.func269.trans (congrArg some (by kernel_rfl))⟩
 f27:=⟨Tryz.f270.name,by decide,Tryz.func270.trans (congrArg some (by kernel_rfl))⟩
 f28:=Tryz.func271.trans (congrArg some (by kernel_rfl))
 f29:=Tryz.func272.trans (congrArg some (by kernel_rfl))
 f46:=⟨Tryz.f319.name,by decide,Tryz.func319.trans (congrArg some (by kernel_rfl))⟩
 f47:=Tryz.func320.trans (congrArg some (by kernel_rfl))
 f48:=Tryz.func321.trans (congrArg some (by kernel_rfl))
 f49:=⟨Tryz.f322.name,by decide,Tryz.func322.trans (congrArg some (by kernel_rfl))⟩
 f50:=⟨Tryz.f323.name,by decide,Tryz.func323.trans (congrArg some (by kernel_rfl))⟩
 f57:=⟨Tryz.f372.name,by decide,Tryz.func372.trans (congrArg some (by kernel_rfl))⟩
 t0:=Tryz.underlying0
 a0:=Tryz.isAgg0
 z0:=Tryz.sizeOf0
 v0:=Tryz.zeroValue0
 t3:=Tryz.underlying3
 a3:=Tryz.isAgg3
 z3:=Tryz.sizeOf3
 v3:=Tryz.zeroValue3
 t4:=Tryz.underlying4
 a4:=Tryz.isAgg4
 z4:=Tryz.sizeOf4
 v4:=Tryz.zeroValue4
 t5:=Tryz.underlying5
 a5:=Tryz.isAgg5
 z5:=Tryz.sizeOf5
 v5:=Tryz.zeroValue5
 t9:=Tryz.underlying9
 a9:=Tryz.isAgg9
 z9:=Tryz.sizeOf9
 v9:=Tryz.zeroValue9
 t22:=Tryz.underlying40
 a22:=Tryz.isAgg40
 z22:=Tryz.sizeOf40
 v22:=Tryz.zeroValue40
 t25:=Tryz.underlying218
 a25:=Tryz.isAgg218
 z25:=Tryz.sizeOf218
 v25:=Tryz.zeroValue218
 t39:=Tryz.underlying273
 a39:=Tryz.isAgg273
 z39:=Tryz.sizeOf273
 v39:=Tryz.zeroValue273
 t45:=Tryz.underlying294
 a45:=Tryz.isAgg294
 z45:=Tryz.sizeOf294
 v45:=Tryz.zeroValue294
 t46:=Tryz.underlying295
 a46:=Tryz.isAgg295
 z46:=Tryz.sizeOf295
 v46:=Tryz.zeroValue295
 t50:=Tryz.underlying167
 a50:=Tryz.isAgg167
 z50:=Tryz.sizeOf167
 v50:=Tryz.zeroValue167
 t53:=Tryz.underlying301
 a53:=Tryz.isAgg301
 z53:=Tryz.sizeOf301
 v53:=Tryz.zeroValue301
 t55:=Tryz.underlying185
 a55:=Tryz.isAgg185
 z55:=Tryz.sizeOf185
 v55:=Tryz.zeroValue185
 t66:=Tryz.underlying332
 a66:=Tryz.isAgg332
 z66:=Tryz.sizeOf332
 v66:=Tryz.zeroValue332
 t70:=Tryz.underlying336
 a70:=Tryz.isAgg336
 z70:=Tryz.sizeOf336
 v70:=Tryz.zeroValue336
 t76:=Tryz.underlying367
 a76:=Tryz.isAgg367
 z76:=Tryz.sizeOf367
 v76:=Tryz.zeroValue367
 t77:=Tryz.underlying321
 a77:=Tryz.isAgg321
 z77:=Tryz.sizeOf321
 v77:=Tryz.zeroValue321 }
def Tryz.laysSlF06_f192_ren:Go.Shelf.Ren:=⟨fun | 6=>192 | 15=>219 | 14=>251 | 28=>271 | 29=>272 | 20=>306 | 21=>307 | 22=>308 | 23=>309 | 24=>310 | 25=>311 | 26=>312 | 27=>313 | 46=>359 | 47=>320 | 48=>321 | 49=>360 | 50=>361 | 57=>390|n=>n,fun | 22=>67 | 24=>75 | 25=>247 | 3=>3 | 39=>273 | 0=>0 | 53=>301 | 55=>185 | 4=>4 | 46=>295 | 45=>294 | 50=>167 | 5=>5 | 9=>9 | 66=>332 | 70=>336 | 76=>367 | 77=>321|n=>n,fun|n=>n⟩
theorem Tryz.laysSlF06_f192:Go.Proofs.SlLaysF0.n6 Tryz.prog Tryz.laysSlF06_f192_ren:={
 mixed:=by kernel_rfl
 f6:=⟨Tryz.f192.name,by decide,Tryz.func192.trans (congrArg some (by kernel_rfl))⟩
 f14:=⟨Tryz.f251.name,by decide,Tryz.func251.trans (congrArg some (by kernel_rfl))⟩
 f15:=Tryz.func219.trans (congrArg some (by kernel_rfl))
 f20:=⟨Tryz.f306.name,by decide,Tryz.func306.trans (congrArg some (by kernel_rfl))⟩
 f21:=⟨Tryz.f307.name,by decide,Tryz.func307.trans (congrArg some (by kernel_rfl))⟩
 f22:=⟨Tryz.f308.name,by decide,Tryz.func308.trans (congrArg some (by kernel_rfl))⟩
 f23:=⟨Tryz.f309.name,by decide,Tryz.func309.trans (congrArg some (by kernel_rfl))⟩
 f24:=⟨Tryz.f310.name,by decide,Tryz.func310.trans (congrArg some (by kernel_rfl))⟩
 f25:=⟨Tryz.f311.name,by decide,Tryz.func311.trans (congrArg some (by kernel_rfl))⟩
 f26:=⟨Tryz.f312.name,by decide,Tryz.func312.trans (congrArg some (by kernel_rfl))⟩
 f27:=⟨Tryz.f313.name,by decide,Tryz.func313.trans (congrArg some (by kernel_rfl))⟩
 f28:=Tryz.func271.trans (congrArg some (by kernel_rfl))
 f29:=Tryz.func272.trans (congrArg some (by kernel_rfl))
 f46:=⟨Tryz.f359.name,by decide,Tryz.func359.trans (congrArg some (by kernel_rfl))⟩
 f47:=Tryz.func320.trans (congrArg some (by kernel_rfl))
 f48:=Tryz.func321.trans (congrArg some (by kernel_rfl))
 f49:=⟨Tryz.f360.name,by decide,Tryz.func360.trans (congrArg some (by kernel_rfl))⟩
 f50:=⟨Tryz.f361.name,by decide,Tryz.func361.trans (congrArg some (by kernel_rfl))⟩
 f57:=⟨Tryz.f390.name,by decide,Tryz.func390.trans (congrArg some (by kernel_rfl))⟩
 t0:=Tryz.underlying0
 a0:=Tryz.isAgg0
 z0:=Tryz.sizeOf0
 v0:=Tryz.zeroValue0
 t3:=Tryz.underlying3
 a3:=Tryz.isAgg3
 z3:=Tryz.sizeOf3
 v3:=Tryz.zeroValue3
 t4:=Tryz.underlying4
 a4:=Tryz.isAgg4
 z4:=Tryz.sizeOf4
 v4:=Tryz.zeroValue4
 t5:=Tryz.underlying5
 a5:=Tryz.isAgg5
 z5:=Tryz.sizeOf5
 v5:=Tryz.zeroValue5
 t9:=Tryz.underlying9
 a9:=Tryz.isAgg9
 z9:=Tryz.sizeOf9
 v9:=Tryz.zeroValue9
 t22:=Tryz.underlying67
 a22:=Tryz.isAgg67
 z22:=Tryz.sizeOf67
 v22:=Tryz.zeroValue67
 t25:=Tryz.underlying247
 a25:=Tryz.isAgg247
 z25:=Tryz.sizeOf247
 v25:=Tryz.zeroValue247
 t39:=Tryz.underlying273
 a39:=Tryz.isAgg273
 z39:=Tryz.sizeOf273
 v39:=Tryz.zeroValue273
 t45:=Tryz.underlying294
 a45:=Tryz.isAgg294
 z45:=Tryz.sizeOf294
 v45:=Tryz.zeroValue294
 t46:=Tryz.underlying295
 a46:=Tryz.isAgg295
 z46:=Tryz.sizeOf295
 v46:=Tryz.zeroValue295
 t50:=Tryz.underlying167
 a50:=Tryz.isAgg167
 z50:=Tryz.sizeOf167
 v50:=Tryz.zeroValue167
 t53:=Tryz.underlying301
 a53:=Tryz.isAgg301
 z53:=Tryz.sizeOf301
 v53:=Tryz.zeroValue301
 t55:=Tryz.underlying185
 a55:=Tryz.isAgg185
 z55:=Tryz.sizeOf185
 v55:=Tryz.zeroValue185
 t66:=Tryz.underlying332
 a66:=Tryz.isAgg332
 z66:=Tryz.sizeOf332
 v66:=Tryz.zeroValue332
 t70:=Tryz.underlying336
 a70:=Tryz.isAgg336
 z70:=Tryz.sizeOf336
 v70:=Tryz.zeroValue336
 t76:=Tryz.underlying367
 a76:=Tryz.isAgg367
 z76:=Tryz.sizeOf367
 v76:=Tryz.zeroValue367
 t77:=Tryz.underlying321
 a77:=Tryz.isAgg321
 z77:=Tryz.sizeOf321
 v77:=Tryz.zeroValue321 }
open Go.RowKit Go.Lib Go.Sort in
theorem Tryz.slices_SortFunc_f155 {α:Type} [Inhabited α] (k:Nat) (aE:∀ w,(isAgg 130).run Tryz.prog w=.ok true w) (zE:∀ w,(Go.sizeOf 130).run Tryz.prog w=.ok k w) (enc:α→List Value) (hk:∀ x,(enc x).length=k) (h1:∀ x,∀ v∈enc x,v.oneCell'=true) (cf:α→α→Int) (hO:SWO (ltOf cf)) (g:Nat) (cb:Array Value) (blk off cap:Nat) (d:Array α) (w:World) (eg:∀ args w,(callFunc g args).run Tryz.prog w=.ok (.enter g args) w) (hcmp:CmpLays Tryz.prog g cb enc k cf blk off d.size w) (hH:HoldsK enc k w blk off d) (hblk:blk<w.heap.size) (hsz:d.size<4611686018427387904):
  Calls Tryz.prog 155 #[.slice (some ⟨blk,off,none⟩) d.size cap,.func (.func g) #[] cb] w fun e w' =>
   e=.returned (.tuple #[])∧∃ d' n os,PermIn 0 d.size d d'∧SortedIn (ltOf cf) 0 d.size d'∧w'=sortWorldK enc k w blk off n d' os:=AnyQ.slices_SortFunc Tryz.laysSlF06_f155 k aE zE enc hk h1 cf hO g cb blk off cap d w eg hcmp hH hblk hsz
open Go.RowKit Go.Lib Go.Sort in
theorem Tryz.slices_SortFunc_f192 {α:Type} [Inhabited α] (k:Nat) (aE:∀ w,(isAgg 75).run Tryz.prog w=.ok true w) (zE:∀ w,(Go.sizeOf 75).run Tryz.prog w=.ok k w) (enc:α→List Value) (hk:∀ x,(enc x).length=k) (h1:∀ x,∀ v∈enc x,v.oneCell'=true) (cf:α→α→Int) (hO:SWO (ltOf cf)) (g:Nat) (cb:Array Value) (blk off cap:Nat) (d:Array α) (w:World) (eg:∀ args w,(callFunc g args).run Tryz.prog w=.ok (.enter g args) w) (hcmp:CmpLays Tryz.prog g cb enc k cf blk off d.size w) (hH:HoldsK enc k w blk off d) (hblk:blk<w.heap.size) (hsz:d.size<4611686018427387904):
  Calls Tryz.prog 192 #[.slice (some ⟨blk,off,none⟩) d.size cap,.func (.func g) #[] cb] w fun e w' =>
   e=.returned (.tuple #[])∧∃ d' n os,PermIn 0 d.size d d'∧SortedIn (ltOf cf) 0 d.size d'∧w'=sortWorldK enc k w blk off n d' os:=AnyQ.slices_SortFunc Tryz.laysSlF06_f192 k aE zE enc hk h1 cf hO g cb blk off cap d w eg hcmp hH hblk hsz
open Go.RowKit Go.Lib Go.Sort in
theorem Tryz.slices_SortFunc_none_f155 {α:Type} [Inhabited α] (p:Option Addr) (cap:Nat) (fv:Value) (w:World):
  Calls Tryz.prog 155 #[.slice p 0 cap,fv] w fun e w'=>e=.returned (.tuple #[])∧w'=w:=AnyF.slices_SortFunc_none Tryz.laysSlF06_f155 p cap fv w
open Go.RowKit Go.Lib Go.Sort in
theorem Tryz.slices_SortFunc_none_f192 {α:Type} [Inhabited α] (p:Option Addr) (cap:Nat) (fv:Value) (w:World):
  Calls Tryz.prog 192 #[.slice p 0 cap,fv] w fun e w'=>e=.returned (.tuple #[])∧w'=w:=AnyF.slices_SortFunc_none Tryz.laysSlF06_f192 p cap fv w
end Go.Proofs
end
section
namespace Go.Proofs.YtlbfnbldeefgmaaGreatDoor
open Go Go.Dm Go.Proofs
set_option maxRecDepth 100000
set_option maxHeartbeats 8000000
theorem KP {t:List It} {p:List UInt8} {i:Nat} (hs:Srt t) (h:EA t p i):fN t p i=(aQ t p).isSome:=by
 cases hf:fN t p i
 ·rw [QQ hs h hf];rfl
 ·unfold fN at hf;cases hx:t[i]? with
  | none=>rw [hx] at hf;cases hf
  | some x=>rw [hx] at hf;rw [FE hs hx hf];rfl
def zGW (t:List It) (a b:List UInt8):Int :=
 if a == [] || b == [] || !bT a || !bT b then 1 else if !(aQ t a).isSome then 6 else if aP a b then 18 else if (aQ t b).isSome then 7 else if !aV t (aR b) then 9 else 0
theorem zDv {t:List It} {a b:List UInt8} (ht:t.length≤1000000) (hs:Srt t) (ha:a.length≤1000000000) (hb:b.length≤1000000000):
  aA Tryz.prog 295 [.c (.p (.sl 5 (aU t))),.c (.p (.s a)),.c (.p (.s b))] [] fun r h=>r=.c (.p (.i .i64 (zGW t a b)))∧h=[]:=by
 have hdir:=eN (t:=t) (p:=aR b) ht hs;have hpa:=eV ha;have hpb:=eV hb;unfold zGW;generalize bT a=pa at *;generalize bT b=pb at *;generalize aV t (aR b)=db at *;refine ent aB aK Tryz.func295 rfl rfl fun X0 hX=>?_;simp only [Tryz.f295,go_sem]
 repeat' (simp only [*,go_sem,Nat.reduceLT,Nat.reduceEqDiff,↓reduceIte,Nat.reduceAdd,])
 refine zEQ (KL ht hs) rfl (fun _ _=>rfl) fun i hi=>?_;unfold lN;rw [KP hs hi];generalize (aQ t a).isSome=ga
 repeat' (simp only [*,go_sem,Nat.reduceLT,Nat.reduceEqDiff,↓reduceIte,])
 refine zEQ (KL ht hs) rfl (fun _ _=>rfl) fun j hj=>?_;unfold lN;rw [KP hs hj];generalize (aQ t b).isSome=gb;cases pa <;> cases pb <;> cases ga <;> cases gb <;> cases db
 all_goals repeat' (first|simp only [*,go_sem,Nat.reduceLT,Nat.reduceEqDiff,↓reduceIte,Bool.not_true,Bool.not_false]|((with_reducible refine dM (hpa) ?_ ?_ ?_);exact rfl;exact rfl)|((with_reducible refine dM (hpb) ?_ ?_ ?_);exact rfl;exact rfl)|((with_reducible refine dM (cK ha) ?_ ?_ ?_);exact rfl;exact rfl)|((with_reducible refine dM (dQ hb) ?_ ?_ ?_);exact rfl;exact rfl)|((with_reducible refine dM (hdir) ?_ ?_ ?_);exact rfl;exact rfl)|with_reducible refine aO (fun _=>?_) (fun _=>?_)|with_reducible refine bF (fun _=>?_) (fun _=>?_))
 all_goals simp_all
theorem zJR {q q':List UInt8} {k k' m m':Int} {t t':Nat} {d d':List UInt8}:
  aA Tryz.prog 296 [.agg [.p (.s q),.p (.i .i64 k),.p (.i .i64 m),.p (.f t),.p (.sl 1 (bO d))],.agg [.p (.s q'),.p (.i .i64 k'),.p (.i .i64 m'),.p (.f t'),.p (.sl 1 (bO d'))]] [] fun r h=>r=.c (.p (.i .i64 (HL q q')))∧h=[]:=by
 refine ent aB aK Tryz.func296 rfl rfl fun X0 hX=>?_;simp only [Tryz.f296,go_sem]
 repeat' (first|simp only [*,go_sem,Nat.reduceLT,Nat.reduceEqDiff,↓reduceIte,]|((with_reducible refine dM (jX) ?_ ?_ ?_);exact rfl;exact rfl))
theorem zKf {h:aC} {id:Nat} {l:List It} (hu:∀ x∈l,∀ y∈l,x.p=y.p→x=y) (hid:h[id]? = some (.arr 5 (aU l) false)) (hsz:l.length<4611686018427387904):
  aA Tryz.prog 155 [.c (.own id 0 l.length),.c (.clo 296 [])] h fun d h'=>d=.tup []∧h'=h.set id (.arr 5 (aU (fH l)) false):=by
 have:=mX (P:=Tryz.prog) (f:=155) (g:=296) 5 (by decide) cfI TC
  (enters Tryz.func155 rfl rfl) (enters_of Tryz.func296 (by kernel_rfl) rfl)
  (fun enc hk h1 c hO blk off cap d w hcmp hH hblk hsz=>Tryz.slices_SortFunc_f155 5 Tryz.isAgg130 Tryz.sizeOf130 enc hk h1 c hO 296 #[] blk off cap d w (enters_of Tryz.func296 (by kernel_rfl) rfl) hcmp hH hblk hsz)
  (fun p cap fv w=>Tryz.slices_SortFunc_none_f155 (α:=Nat) p cap fv w)
  (h:=h) (i0:=id) (es:=aU l) (fun x hx y hy=>by
   obtain ⟨a,_,rfl⟩:=List.mem_map.1 hx;obtain ⟨b,_,rfl⟩:=List.mem_map.1 hy;exact zJR) (HZ hu) hid (by rw [cS];exact hsz)
 rw [KF,cS] at this;exact this
theorem zKg {h:aC} {id:Nat} {l:List It} {K:DV→aC→Prop} (hu:∀ x∈l,∀ y∈l,x.p=y.p→x=y) (hsz:l.length<4611686018427387904) (hid:h[id]? = some (.arr 5 (aU l) false)) (hk:K (.tup []) (h.set id (.arr 5 (aU (fH l)) false))):
  aA Tryz.prog 155 [.c (.own id 0 l.length),.c (.clo 296 [])] h K :=
 aA.mono (zKf hu hid hsz) (by rintro _ _ ⟨rfl,rfl⟩;exact hk)
end Go.Proofs.YtlbfnbldeefgmaaGreatDoor
end
section
namespace Go.Dm
open Go Go.Sort Go.Proofs
def FO (t w:List It) (p:List UInt8):Bool:=t.any fun y=>aP p y.p && (aQ w y.p).isSome
def nT (t w:List It) (p:List UInt8):Bool:=aV w p && (aV t p && (!decide (((fR t p).length:Int)<2) && !FO t w p))
theorem ZM (t w:List It) (p:List UInt8):FO t w p=NS t w p:=by
 unfold FO NS
 congr 1
 funext y
 rw [Bool.and_comm]
theorem zLw {t w:List It} {x:It} (hx:x∈w) (h:zDO t w x=true):isB (iX t w) x.p=true :=
 List.any_eq_true.2 ⟨x.p,List.mem_map.2 ⟨x,List.mem_filter.2 ⟨hx,h⟩,rfl⟩,beq_self_eq_true _⟩
theorem CH {t w:List It} (hw:OkT w) {x:It} (hx:x∈w):((x.n.k == 2) && nT t w x.p)=isB (iX t w) x.p:=by
 have h0:(x.p == [])=false:=by simpa using hw.ne x hx
 have h1:aV w x.p=(x.n.k == 2):=by
  unfold aV;rw [cI hw.srt hx,h0,Bool.false_or]
 have h2:((x.n.k == 2) && nT t w x.p)=zDO t w x:=by
  unfold nT zDO zCY;rw [h1,h0,ZM];cases x.n.k == 2 <;> cases aV t x.p <;> simp
 rw [h2];cases hb:isB (iX t w) x.p
 ·cases ho:zDO t w x
  ·rfl
  ·rw [zLw hx ho] at hb;cases hb
 ·exact GH hw hx hb
def zMV (t w:List It) (q:List UInt8):Bool:=!(aQ w q).isSome || (!aV w q || nT t w q)
theorem zLs {t w:List It} (hw:OkT w) {q:List UInt8} (hq:q≠[]):zMV t w q=(!(aQ w q).isSome || (((aQ w q).getD nd0).k != 2 || isB (iX t w) q)):=by
 have h0:(q == [])=false:=by simpa using hq
 unfold zMV;cases hg:aQ w q with
 | none=>rfl
 | some n =>
  obtain ⟨x,hx,rfl,rfl⟩:=bZ hg;have h1:aV w x.p=(x.n.k == 2):=by
   unfold aV;rw [hg,h0,Bool.false_or]
  have h2:=CH (t:=t) hw hx;rw [h1,Option.isSome_some,Option.getD_some,← h2];cases hk:x.n.k == 2 <;> simp [bne,hk]
def VV (t w:List It):List En:=(t.filter fun y=>!(aQ w y.p).isSome && !HM w (iX t w) y.p).map fun y=>kI y.p
def lS (t w:List It):List En:=gX t (iX t w) w++VV t w
theorem yO {t w:List It} (ht:OkT t) (hw:OkT w) (e:En):e∈fX t w↔e∈lS t w:=by
 rw [(lT ht hw).2 e];unfold lS VV;rw [List.mem_append,List.mem_map];constructor
 ·rintro (h|⟨y,hy,rfl,h1,h2⟩)
  ·exact .inl h
  ·exact .inr ⟨y,List.mem_filter.2 ⟨hy,by rw [h1,h2];rfl⟩,rfl⟩
 ·rintro (h|⟨y,hy,rfl⟩)
  ·exact .inl h
  ·obtain ⟨h1,h2⟩:=List.mem_filter.1 hy;simp only [Bool.and_eq_true,Bool.not_eq_true'] at h2;exact .inr ⟨y,h1,rfl,h2.1,h2.2⟩
theorem uE {l:List En} (h:XM l):l.Nodup:=h.imp fun {a b} h e=>by subst e;rw [cM] at h;cases h
theorem RM {t w:List It} (ht:OkT t) (hw:OkT w):(lS t w).Nodup:=by
 unfold lS;refine List.nodup_append.2 ⟨uE (MF hw.srt),?_,fun a ha b hb e=>?_⟩
 ·have:(VV t w).Pairwise fun x y=>bL x.p y.p=true:=List.pairwise_map.2 ((ht.srt.filter _).imp fun h=>h);exact uE this
 ·obtain ⟨x,hx,rfl⟩:=jA ha;obtain ⟨y,_,rfl⟩:=List.mem_map.1 hb;injection e with _ h _ _;cases h
def leE (x y:En):Bool:=!bL y.p x.p
def zX (l:List En):List En:=l.mergeSort leE
theorem oX (l:List En):(zX l).Perm l:=List.mergeSort_perm _ _
theorem zEy (l:List En):(zX l).length=l.length:=List.length_mergeSort ..
theorem NM (l:List En):(zX l).Pairwise fun x y=>bL y.p x.p=false:=by
 have h:(zX l).Pairwise fun x y=>leE x y=true:=by
  refine List.pairwise_mergeSort (le:=leE) ?_ ?_ _
  ·intro a b c h1 h2;simp only [leE,Bool.not_eq_true'] at h1 h2 ⊢;cases e:bL c.p a.p with
   | false=>rfl
   | true =>
    cases f:bL a.p b.p with
    | true=>have:=cC e f;rw [h2] at this;cases this
    | false=>have:=dV f h1;rw [← this,e] at h2;cases h2
  ·intro a b;simp only [leE];cases h:bL b.p a.p with
   | false=>simp
   | true=>simp [eH h]
 exact h.imp fun h=>by unfold leE at h;simpa using h
theorem zBl {l:List En} (hu:∀ x∈l,∀ y∈l,x.p=y.p→x=y):∀ x∈fJ l,∀ y∈fJ l,ltOf cfI x y=false→ltOf cfI y x=false→x=y:=by
 rw [LK];intro x hx y hy h k;obtain ⟨a,ha,rfl⟩:=List.mem_map.1 hx;obtain ⟨b,hb,rfl⟩:=List.mem_map.1 hy;rw [hu a ha b hb (dV h k)]
theorem zB8 (l:List En):(fJ l).mergeSort (WD (ltOf cfI))=fJ (zX l):=by
 rw [LK];unfold fJ zX;exact (List.map_mergeSort (r:=leE) (s:=WD zLE) (f:=En.cs) (l:=l) fun a _ b _=>rfl).symm
theorem LM {t w:List It} (ht:OkT t) (hw:OkT w):∀ x∈lS t w,∀ y∈lS t w,x.p=y.p→x=y :=
 fun x hx y hy e=>HD (lT ht hw).1 x ((yO ht hw x).2 hx) y ((yO ht hw y).2 hy) e
theorem zDu {t w:List It} (ht:OkT t) (hw:OkT w):zX (lS t w)=fX t w:=by
 obtain ⟨hs,_⟩:=lT ht hw;have hinj:=LM ht hw;have hnd:(zX (lS t w)).Nodup:=(oX _).nodup_iff.2 (RM ht hw);have hstrict:(zX (lS t w)).Pairwise fun x y=>bL x.p y.p=true:=by
  refine ((NM (lS t w)).and hnd).imp_of_mem fun {a b} ha hb h=>?_;obtain ⟨h1,h2⟩:=h;cases h3:bL a.p b.p
  ·exact absurd (hinj a ((oX _).mem_iff.1 ha) b ((oX _).mem_iff.1 hb) (dV h3 h1)) h2
  ·rfl
 exact List.Perm.eq_of_pairwise (le:=fun (x y:En)=>bL x.p y.p=true) (fun _ _ _ _ h k=>by rw [eH h] at k;cases k) hstrict hs
  ((List.perm_ext_iff_of_nodup hnd (uE hs)).2 fun e=>(oX _).mem_iff.trans (yO ht hw e).symm)
end Go.Dm
end
