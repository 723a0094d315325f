/- Part 37 of the proof of roomForks_card, set without needless blanks. No condition. -/
import Derived.Test.YtbpblnmhlhpebaaGreatDoorC35
import Derived.Ground.SlsfProg
import Derived.Shelf.SlSortCmp.WholeK
import Derived.Shelf.SlSortCmp.NoneTotal
set_option linter.unusedSimpArgs false
set_option linter.unusedVariables false
set_option maxRecDepth 100000
set_option maxHeartbeats 8000000
namespace Go.Proofs.YtbpblnmhlhpebaaGreatDoor
open Go Go.Dm Go.Proofs
section
def XP (r:Rm):aD:=[.box [.own 4 0 r.N.length,.own 2 0 r.L.length,.mp 3,.p (.i .i64 r.x)],.dead,.arr 4 (dZ r.L) false,.mp (BT r.E),.arr 2 (cR r.N) false]
attribute [go_sem] XP
theorem zJj {h:aD} {id jd n i:Nat} {es:List (List PV)} {x:List PV} {K:DV→aD→Prop} (hid:h[id]? = some (.arr 2 es false)) (hjd:h[jd]? = some (.arr 2 [x] false)) (hne:id≠jd) (hn:n≤es.length) (hin:i≤n) (hn2:n≤1000000)
  (hk:K (.c (.own (h.length+1) 0 (n+1))) (h.set id .dead++[.dead,.arr 2 (eW i x (es.take n)) false])):
  aA Tryz.prog 111 [.c (.own id 0 n),.c (.p (.i .i64 i)),.c (.own jd 0 1)] h K :=
 aA.mono (zH2 hid hjd hne hn hin hn2) (by rintro _ _ ⟨rfl,rfl⟩;exact hk)
theorem zCh (N:List Nm) (s:List UInt8):pR N s≤N.length:=by
 unfold pR
 exact (List.takeWhile_sublist _).length_le
theorem JL {r:Rm} {s:List UInt8} {n:Int} (hl:r.N.length≤1000) (hs:LI r.N):aA Tryz.prog 50 [.c (.ptr 0 0),.c (.p (.s s)),.c (.p (.i .i64 n))] (bX r) fun d h=>d=.tup []∧h=XP ⟨cA r.N s n,r.L,r.E,r.x⟩:=by
 have hf:=tF (r:=r) (s:=s) (Nat.le_trans hl (by decide)) hs
 rcases zD4 hs (s:=s) with ⟨h1,h2⟩|⟨x,h1,h2,h3,h4⟩
 ·rw [h1] at hf
  have hle:=zCh r.N s
  have hlen:=gL r.N
  have hins:eW (pR r.N s) [.s s,.i .i64 n] ((cR r.N).take r.N.length)=cR (cA r.N s n):=by
   rw [MC h1,← hlen,List.take_length]
   simp [eW,cR,List.map_take,List.map_drop]
  have hcl:(cA r.N s n).length=r.N.length+1:=by
   have:=congrArg List.length hins
   rw [gL,← hlen,List.take_length,AD (by omega)] at this
   omega
  have hik:∀ {h:aD} {jd:Nat} {K:DV→aD→Prop},h[1]? = some (.arr 2 (cR r.N) false)→h[jd]? = some (.arr 2 [[.s s,.i .i64 n]] false)→1≠jd→K (.c (.own (h.length+1) 0 (r.N.length+1))) (h.set 1 .dead++[.dead,.arr 2 (cR (cA r.N s n)) false])→aA Tryz.prog 111 [.c (.own 1 0 r.N.length),.c (.p (.i .i64 (pR r.N s))),.c (.own jd 0 1)] h K:=fun h0 h1 hne hk=>zJj h0 h1 hne (by omega) hle (by omega) (by rw [hins];exact hk)
  rw [← hcl] at hik
  generalize cA r.N s n=M at hik hcl ⊢
  generalize pR r.N s=i at hf hle hik
  clear hins h1 h2
  refine aA.perm [0,1,2,3,6] (d1:=.tup []) (h1:=[.box [.own 6 0 M.length,.own 2 0 r.L.length,.mp 3,.p (.i .i64 r.x)],.dead,.arr 4 (dZ r.L) false,.mp (BT r.E),.arr 2 [[.s s,.i .i64 n]] false,.dead,.arr 2 (cR M) false]) ?_ rfl rfl (by unfold XP;exact (by simp only [gU,nR,kO,gS,qT];(repeat' (first|exact rfl|exact True.intro|refine And.intro ?_ ?_))))
  refine WC aB aK Tryz.func50 rfl rfl fun X0 hX=>?_
  simp only [Tryz.f50,go_sem]
  repeat' (first|simp only [*,go_sem,Nat.reduceLT,Nat.reduceLeDiff,Nat.reduceEqDiff,↓reduceIte,Nat.reduceAdd,Nat.reduceMul]|((with_reducible refine aV [0,1,2,3] (hf) ?_ ?_ ?_ ?_);exact rfl;exact rfl;(focus ((simp only [go_sem];done))))|refine hik rfl rfl (by decide) ?_|((with_reducible refine And.intro ?_ ?_);(focus (decide))))
 ·rw [h1] at hf
  have hlt:=(List.getElem?_eq_some_iff.1 h3).1
  have hg:=rI h3
  have k2:(0:Int)≤(pR r.N s:Int):=by omega
  have k3:(pR r.N s:Int)<(r.N.length:Int):=by omega
  have hset:cA r.N s n=r.N.set (pR r.N s) ⟨x.n,n⟩:=by
   have:=wF hs (List.mem_of_getElem? h3) n
   rw [h4] at this ⊢
   exact this
  rw [hset]
  generalize pR r.N s=i at hf hlt hg k2 k3 ⊢
  clear h1 h2 h3 hset
  refine aA.perm [0,4,2,3,1] (d1:=.tup []) (h1:=bX ⟨r.N.set i ⟨x.n,n⟩,r.L,r.E,r.x⟩) ?_ rfl rfl (by unfold XP bX;exact (by simp only [gU,nR,kO,gS,qT];(repeat' (first|exact rfl|exact True.intro|refine And.intro ?_ ?_))))
  have hsl:(r.N.set i ⟨x.n,n⟩).length=r.N.length:=List.length_set
  refine WC aB aK Tryz.func50 rfl rfl fun X0 hX=>?_
  simp only [Tryz.f50,go_sem]
  repeat' (first|simp only [*,go_sem,Nat.reduceLT,Nat.reduceLeDiff,Nat.reduceEqDiff,↓reduceIte,Nat.reduceAdd]|((with_reducible refine aV [0,1,2,3] (hf) ?_ ?_ ?_ ?_);exact rfl;exact rfl;(focus ((simp only [go_sem];done)))))
  all_goals rw [List.length_set]
end
section
theorem MV {r:Rm} {s:List UInt8} {i0 p q:Int} {es:List En} (hr:OkR r) (h3:OkR ⟨cA r.N s r.x,r.L++[⟨r.x,p,q,false⟩],oQ r.E r.x es,r.x+1⟩) (hg:OkG (r.L++[⟨r.x,p,q,false⟩])):
  aA Tryz.prog 51 [.c (.ptr 0 0),.c (.p (.s s)),.agg [.p (.i .i64 i0),.p (.i .i64 p),.p (.i .i64 q),.p (.b false)],.c (.p (.sl 7 (fV es)))] (bX r) fun d h=>d=.tup []∧h=pW (zJC r s p q es):=by
 have hpu:=JL (r:=⟨r.N,r.L++[⟨r.x,p,q,false⟩],oQ r.E r.x es,r.x+1⟩) (s:=s) (n:=r.x) (by have:=hr.nl;simp only;omega) hr.srt
 have hcl:=zJa h3 hg
 have hx:=hr.x
 have hll:=hr.ll
 have w1:IntKind.i64.wrap (r.x+1)=r.x+1:=wrap_i64 (by omega) (by omega)
 unfold zJC
 generalize VA ⟨cA r.N s r.x,r.L++[⟨r.x,p,q,false⟩],oQ r.E r.x es,r.x+1⟩=c at hcl ⊢
 have hlp:(r.L++[(⟨r.x,p,q,false⟩:Ly)]).length=r.L.length+1:=by simp
 generalize cA r.N s r.x=M at hpu hcl
 unfold XP bX at hpu
 unfold bX at hcl
 simp only [hlp] at hpu hcl
 refine aA.perm [0,1,2,3,8,9,10] (d1:=.tup []) (h1:=[.box [.own 8 0 c.N.length,.own 9 0 c.L.length,.mp 10,.p (.i .i64 c.x)],.dead,.dead,.dead,.box [.p (.i .i64 r.x),.p (.i .i64 p),.p (.i .i64 q),.p (.b false)],.arr 4 [[.i .i64 r.x,.i .i64 p,.i .i64 q,.b false]] false,.dead,.dead,.arr 2 (cR c.N) false,.arr 4 (dZ c.L) false,.mp (BT c.E)]) ?_ rfl rfl (by unfold pW;exact (by simp only [gU,nR,kO,gS,qT];(repeat' (first|exact rfl|exact True.intro|refine And.intro ?_ ?_))))
 clear h3 hg hr
 refine WC aB aK Tryz.func51 rfl rfl fun X0 hX=>?_
 simp only [Tryz.f51,go_sem]
 repeat' (first|simp only [*,go_sem,Nat.reduceLT,Nat.reduceLeDiff,Nat.reduceEqDiff,↓reduceIte,Nat.reduceAdd,Nat.reduceSub]|((with_reducible refine aV [0,1,6,3] (hpu) ?_ ?_ ?_ ?_);exact rfl;exact rfl;(focus ((simp only [go_sem];done))))|((with_reducible refine aV [0,7,6,3] (hcl) ?_ ?_ ?_ ?_);exact rfl;exact rfl;(focus ((simp only [go_sem];done))))|((refine aP (id:=3) aB aK [6,7,10] [5,6,1,2,3,4,7,0,8,9,10] (by decide +kernel) ?_);(repeat' (first|(refine bA ?_)|((refine dB ?_ ?_ rfl rfl rfl ?_ ?_);(rotate_left 2);(focus ((repeat' (first|simp only [*,go_sem,Nat.reduceLT,Nat.reduceLeDiff,Nat.reduceEqDiff,↓reduceIte,Nat.reduceAdd,Nat.reduceMul,Nat.reduceBEq]|((with_reducible refine And.intro ?_ ?_);(focus (first|omega|decide)))));((refine And.intro ?_ ?_ <;> exact rfl))));(simp only [aJ,bQ]))|((refine dC ?_ rfl rfl rfl ?_ ?_);(rotate_left 1);(focus ((repeat' (first|exact bP|refine bE ?_ ?_));(all_goals ((repeat' (simp only [*,go_sem,Nat.reduceLT,Nat.reduceLeDiff,Nat.reduceEqDiff,↓reduceIte,Nat.reduceAdd]));(try (exact rfl))))));(simp only [aJ])))))|((refine aP (id:=4) aB aK [7] [0,1,2,3,4,5,6,7] (by decide +kernel) ?_);(repeat' (first|(refine bA ?_)|((refine dB ?_ ?_ rfl rfl rfl ?_ ?_);(rotate_left 2);(focus ((repeat' (simp only [*,go_sem,Nat.reduceEqDiff,↓reduceIte]));((refine And.intro ?_ ?_ <;> exact rfl))));(simp only [bQ]))|((refine dC ?_ rfl rfl rfl ?_ ?_);(rotate_left 1);(focus ((repeat' (first|exact bP|refine bE ?_ ?_));(all_goals ((repeat' (simp only [*,go_sem,Nat.reduceLT,Nat.reduceEqDiff,↓reduceIte]));(try (exact rfl))))));(simp only [aJ]))))))
end
end Go.Proofs.YtbpblnmhlhpebaaGreatDoor
namespace Go.Proofs
open Go.Shelf
section
def Tryz.laysSlF06_f100_ren:Go.Shelf.Ren:=⟨fun | 6=>100 | 15=>167 | 14=>166 | 28=>240 | 29=>241 | 20=>232 | 21=>233 | 22=>234 | 23=>235 | 24=>236 | 25=>237 | 26=>238 | 27=>239 | 46=>308 | 47=>309 | 48=>310 | 49=>311 | 50=>312 | 57=>359|n=>n,fun | 22=>26 | 24=>121 | 25=>173 | 3=>3 | 39=>233 | 0=>0 | 53=>293 | 55=>184 | 4=>4 | 46=>287 | 45=>286 | 50=>137 | 5=>5 | 9=>9 | 66=>332 | 70=>336 | 76=>363 | 77=>339|n=>n,fun|n=>n⟩
theorem Tryz.laysSlF06_f100:Go.Proofs.SlLaysF0.n6 Tryz.prog Tryz.laysSlF06_f100_ren:={
 mixed:=by kernel_rfl
 f6:=⟨Tryz.f100.name,by decide,Tryz.func100.trans (congrArg some (by kernel_rfl))⟩
 f14:=⟨Tryz.f166.name,by decide,Tryz.func166.trans (congrArg some (by kernel_rfl))⟩
 f15:=Tryz.func167.trans (congrArg some (by kernel_rfl))
 f20:=⟨Tryz.f232.name,by decide,Tryz.func232.trans (congrArg some (by kernel_rfl))⟩
 f21:=⟨Tryz.f233.name,by decide,Tryz.func233.trans (congrArg some (by kernel_rfl))⟩
 f22:=⟨Tryz.f234.name,by decide,Tryz.func234.trans (congrArg some (by kernel_rfl))⟩
 f23:=⟨Tryz.f235.name,by decide,Tryz.func235.trans (congrArg some (by kernel_rfl))⟩
 f24:=⟨Tryz.f236.name,by decide,Tryz.func236.trans (congrArg some (by kernel_rfl))⟩
 f25:=⟨Tryz.f237.name,by decide,Tryz.func237.trans (congrArg some (by kernel_rfl))⟩
 f26:=⟨Tryz.f238.name,by decide,Tryz.func238.trans (congrArg some (by kernel_rfl))⟩
 f27:=⟨Tryz.f239.name,by decide,Tryz.func239.trans (congrArg some (by kernel_rfl))⟩
 f28:=Tryz.func240.trans (congrArg some (by kernel_rfl))
 f29:=Tryz.func241.trans (congrArg some (by kernel_rfl))
 f46:=⟨Tryz.f308.name,by decide,Tryz.func308.trans (congrArg some (by kernel_rfl))⟩
 f47:=Tryz.func309.trans (congrArg some (by kernel_rfl))
 f48:=Tryz.func310.trans (congrArg some (by kernel_rfl))
 f49:=⟨Tryz.f311.name,by decide,Tryz.func311.trans (congrArg some (by kernel_rfl))⟩
 f50:=⟨Tryz.f312.name,by decide,Tryz.func312.trans (congrArg some (by kernel_rfl))⟩
 f57:=⟨Tryz.f359.name,by decide,Tryz.func359.trans (congrArg some (by kernel_rfl))⟩
 t0:=Tryz.underlying0
 a0:=Tryz.isAgg0
 z0:=Tryz.sizeOf0
 v0:=Tryz.zeroValue0
 t3:=Tryz.underlying3
 a3:=Tryz.isAgg3
 z3:=Tryz.sizeOf3
 v3:=Tryz.zeroValue3
 t4:=Tryz.underlying4
 a4:=Tryz.isAgg4
 z4:=Tryz.sizeOf4
 v4:=Tryz.zeroValue4
 t5:=Tryz.underlying5
 a5:=Tryz.isAgg5
 z5:=Tryz.sizeOf5
 v5:=Tryz.zeroValue5
 t9:=Tryz.underlying9
 a9:=Tryz.isAgg9
 z9:=Tryz.sizeOf9
 v9:=Tryz.zeroValue9
 t22:=Tryz.underlying26
 a22:=Tryz.isAgg26
 z22:=Tryz.sizeOf26
 v22:=Tryz.zeroValue26
 t25:=Tryz.underlying173
 a25:=Tryz.isAgg173
 z25:=Tryz.sizeOf173
 v25:=Tryz.zeroValue173
 t39:=Tryz.underlying233
 a39:=Tryz.isAgg233
 z39:=Tryz.sizeOf233
 v39:=Tryz.zeroValue233
 t45:=Tryz.underlying286
 a45:=Tryz.isAgg286
 z45:=Tryz.sizeOf286
 v45:=Tryz.zeroValue286
 t46:=Tryz.underlying287
 a46:=Tryz.isAgg287
 z46:=Tryz.sizeOf287
 v46:=Tryz.zeroValue287
 t50:=Tryz.underlying137
 a50:=Tryz.isAgg137
 z50:=Tryz.sizeOf137
 v50:=Tryz.zeroValue137
 t53:=Tryz.underlying293
 a53:=Tryz.isAgg293
 z53:=Tryz.sizeOf293
 v53:=Tryz.zeroValue293
 t55:=Tryz.underlying184
 a55:=Tryz.isAgg184
 z55:=Tryz.sizeOf184
 v55:=Tryz.zeroValue184
 t66:=Tryz.underlying332
 a66:=Tryz.isAgg332
 z66:=Tryz.sizeOf332
 v66:=Tryz.zeroValue332
 t70:=Tryz.underlying336
 a70:=Tryz.isAgg336
 z70:=Tryz.sizeOf336
 v70:=Tryz.zeroValue336
 t76:=Tryz.underlying363
 a76:=Tryz.isAgg363
 z76:=Tryz.sizeOf363
 v76:=Tryz.zeroValue363
 t77:=Tryz.underlying339
 a77:=Tryz.isAgg339
 z77:=Tryz.sizeOf339
 v77:=Tryz.zeroValue339 }
def Tryz.laysSlF06_f130_ren:Go.Shelf.Ren:=⟨fun | 6=>130 | 15=>167 | 14=>206 | 28=>240 | 29=>241 | 20=>280 | 21=>281 | 22=>282 | 23=>283 | 24=>284 | 25=>285 | 26=>286 | 27=>287 | 46=>347 | 47=>309 | 48=>310 | 49=>348 | 50=>349 | 57=>378|n=>n,fun | 22=>135 | 24=>202 | 25=>204 | 3=>3 | 39=>233 | 0=>0 | 53=>293 | 55=>184 | 4=>4 | 46=>287 | 45=>286 | 50=>137 | 5=>5 | 9=>9 | 66=>332 | 70=>336 | 76=>363 | 77=>339|n=>n,fun|n=>n⟩
theorem Tryz.laysSlF06_f130:Go.Proofs.SlLaysF0.n6 Tryz.prog Tryz.laysSlF06_f130_ren:={
 mixed:=by kernel_rfl
 f6:=⟨Tryz.f130.name,by decide,Tryz.func130.trans (congrArg some (by kernel_rfl))⟩
 f14:=⟨Tryz.f206.name,by decide,Tryz.func206.trans (congrArg some (by kernel_rfl))⟩
 f15:=Tryz.func167.trans (congrArg some (by kernel_rfl))
 f20:=⟨Tryz.f280.name,by decide,Tryz.func280.trans (congrArg some (by kernel_rfl))⟩
 f21:=⟨Tryz.f281.name,by decide,Tryz.func281.trans (congrArg some (by kernel_rfl))⟩
 f22:=⟨Tryz.f282.name,by decide,Tryz.func282.trans (congrArg some (by kernel_rfl))⟩
 f23:=⟨Tryz.f283.name,by decide,Tryz.func283.trans (congrArg some (by kernel_rfl))⟩
 f24:=⟨Tryz.f284.name,by decide,Tryz.func284.trans (congrArg some (by kernel_rfl))⟩
 f25:=⟨Tryz.f285.name,by decide,Tryz.func285.trans (congrArg some (by kernel_rfl))⟩
 f26:=⟨Tryz.f286.name,by decide,Tryz.func286.trans (congrArg some (by kernel_rfl))⟩
 f27:=⟨Tryz.f287.name,by decide,Tryz.func287.trans (congrArg some (by kernel_rfl))⟩
 f28:=Tryz.func240.trans (congrArg some (by kernel_rfl))
 f29:=Tryz.func241.trans (congrArg some (by kernel_rfl))
 f46:=⟨Tryz.f347.name,by decide,Tryz.func347.trans (congrArg some (by kernel_rfl))⟩
 f47:=Tryz.func309.trans (congrArg some (by kernel_rfl))
 f48:=Tryz.func310.trans (congrArg some (by kernel_rfl))
 f49:=⟨Tryz.f348.name,by decide,Tryz.func348.trans (congrArg some (by kernel_rfl))⟩
 f50:=⟨Tryz.f349.name,by decide,Tryz.func349.trans (congrArg some (by kernel_rfl))⟩
 f57:=⟨Tryz.f378.name,by decide,Tryz.func378.trans (congrArg some (by kernel_rfl))⟩
 t0:=Tryz.underlying0
 a0:=Tryz.isAgg0
 z0:=Tryz.sizeOf0
 v0:=Tryz.zeroValue0
 t3:=Tryz.underlying3
 a3:=Tryz.isAgg3
 z3:=Tryz.sizeOf3
 v3:=Tryz.zeroValue3
 t4:=Tryz.underlying4
 a4:=Tryz.isAgg4
 z4:=Tryz.sizeOf4
 v4:=Tryz.zeroValue4
 t5:=Tryz.underlying5
 a5:=Tryz.isAgg5
 z5:=Tryz.sizeOf5
 v5:=Tryz.zeroValue5
 t9:=Tryz.underlying9
 a9:=Tryz.isAgg9
 z9:=Tryz.sizeOf9
 v9:=Tryz.zeroValue9
 t22:=Tryz.underlying135
 a22:=Tryz.isAgg135
 z22:=Tryz.sizeOf135
 v22:=Tryz.zeroValue135
 t25:=Tryz.underlying204
 a25:=Tryz.isAgg204
 z25:=Tryz.sizeOf204
 v25:=Tryz.zeroValue204
 t39:=Tryz.underlying233
 a39:=Tryz.isAgg233
 z39:=Tryz.sizeOf233
 v39:=Tryz.zeroValue233
 t45:=Tryz.underlying286
 a45:=Tryz.isAgg286
 z45:=Tryz.sizeOf286
 v45:=Tryz.zeroValue286
 t46:=Tryz.underlying287
 a46:=Tryz.isAgg287
 z46:=Tryz.sizeOf287
 v46:=Tryz.zeroValue287
 t50:=Tryz.underlying137
 a50:=Tryz.isAgg137
 z50:=Tryz.sizeOf137
 v50:=Tryz.zeroValue137
 t53:=Tryz.underlying293
 a53:=Tryz.isAgg293
 z53:=Tryz.sizeOf293
 v53:=Tryz.zeroValue293
 t55:=Tryz.underlying184
 a55:=Tryz.isAgg184
 z55:=Tryz.sizeOf184
 v55:=Tryz.zeroValue184
 t66:=Tryz.underlying332
 a66:=Tryz.isAgg332
 z66:=Tryz.sizeOf332
 v66:=Tryz.zeroValue332
 t70:=Tryz.underlying336
 a70:=Tryz.isAgg336
 z70:=Tryz.sizeOf336
 v70:=Tryz.zeroValue336
 t76:=Tryz.underlying363
 a76:=Tryz.isAgg363
 z76:=Tryz.sizeOf363
 v76:=Tryz.zeroValue363
 t77:=Tryz.underlying339
 a77:=Tryz.isAgg339
 z77:=Tryz.sizeOf339
 v77:=Tryz.zeroValue339 }
open Go.RowKit Go.Lib Go.Sort in
theorem Tryz.slices_SortFunc_f100 {α:Type} [Inhabited α] (k:Nat) (aE:∀ w,(isAgg 121).run Tryz.prog w=.ok true w) (zE:∀ w,(Go.sizeOf 121).run Tryz.prog w=.ok k w) (enc:α→List Value) (hk:∀ x,(enc x).length=k) (h1:∀ x,∀ v∈enc x,v.oneCell'=true) (cf:α→α→Int) (hO:SWO (ltOf cf)) (g:Nat) (cb:Array Value) (blk off cap:Nat) (d:Array α) (w:World) (eg:∀ args w,(callFunc g args).run Tryz.prog w=.ok (.enter g args) w) (hcmp:CmpLays Tryz.prog g cb enc k cf blk off d.size w) (hH:HoldsK enc k w blk off d) (hblk:blk<w.heap.size) (hsz:d.size<4611686018427387904):
  Calls Tryz.prog 100 #[.slice (some ⟨blk,off,none⟩) d.size cap,.func (.func g) #[] cb] w fun e w' =>
   e=.returned (.tuple #[])∧∃ d' n os,PermIn 0 d.size d d'∧SortedIn (ltOf cf) 0 d.size d'∧w'=sortWorldK enc k w blk off n d' os:=AnyQ.slices_SortFunc Tryz.laysSlF06_f100 k aE zE enc hk h1 cf hO g cb blk off cap d w eg hcmp hH hblk hsz
open Go.RowKit Go.Lib Go.Sort in
theorem Tryz.slices_SortFunc_f130 {α:Type} [Inhabited α] (k:Nat) (aE:∀ w,(isAgg 202).run Tryz.prog w=.ok true w) (zE:∀ w,(Go.sizeOf 202).run Tryz.prog w=.ok k w) (enc:α→List Value) (hk:∀ x,(enc x).length=k) (h1:∀ x,∀ v∈enc x,v.oneCell'=true) (cf:α→α→Int) (hO:SWO (ltOf cf)) (g:Nat) (cb:Array Value) (blk off cap:Nat) (d:Array α) (w:World) (eg:∀ args w,(callFunc g args).run Tryz.prog w=.ok (.enter g args) w) (hcmp:CmpLays Tryz.prog g cb enc k cf blk off d.size w) (hH:HoldsK enc k w blk off d) (hblk:blk<w.heap.size) (hsz:d.size<4611686018427387904):
  Calls Tryz.prog 130 #[.slice (some ⟨blk,off,none⟩) d.size cap,.func (.func g) #[] cb] w fun e w' =>
   e=.returned (.tuple #[])∧∃ d' n os,PermIn 0 d.size d d'∧SortedIn (ltOf cf) 0 d.size d'∧w'=sortWorldK enc k w blk off n d' os:=AnyQ.slices_SortFunc Tryz.laysSlF06_f130 k aE zE enc hk h1 cf hO g cb blk off cap d w eg hcmp hH hblk hsz
open Go.RowKit Go.Lib Go.Sort in
theorem Tryz.slices_SortFunc_none_f100 {α:Type} [Inhabited α] (p:Option Addr) (cap:Nat) (fv:Value) (w:World):
  Calls Tryz.prog 100 #[.slice p 0 cap,fv] w fun e w'=>e=.returned (.tuple #[])∧w'=w:=AnyF.slices_SortFunc_none Tryz.laysSlF06_f100 p cap fv w
open Go.RowKit Go.Lib Go.Sort in
theorem Tryz.slices_SortFunc_none_f130 {α:Type} [Inhabited α] (p:Option Addr) (cap:Nat) (fv:Value) (w:World):
  Calls Tryz.prog 130 #[.slice p 0 cap,fv] w fun e w'=>e=.returned (.tuple #[])∧w'=w:=AnyF.slices_SortFunc_none Tryz.laysSlF06_f130 p cap fv w
end
end Go.Proofs
namespace Go.Proofs.YtbpblnmhlhpebaaGreatDoor
open Go Go.Dm Go.Proofs
section
theorem JH {t:List It} {p:List UInt8} {i:Nat} (hs:Srt t) (h:EZ t p i):fL t p i=(aR t p).isSome:=by
 cases hf:fL t p i
 ·rw [RE hs h hf];rfl
 ·unfold fL at hf
  cases hx:t[i]? with
  | none=>rw [hx] at hf;cases hf
  | some x=>rw [hx] at hf;rw [GD hs hx hf];rfl
def zFd (t:List It) (a b:List UInt8):Int :=
 if a == [] || b == [] || !bV a || !bV b then 1 else if !(aR t a).isSome then 6 else if aO a b then 18 else if (aR t b).isSome then 7 else if !aW t (aS b) then 9 else 0
theorem zDV {t:List It} {a b:List UInt8} (ht:t.length≤1000000) (hs:Srt t) (ha:a.length≤1000000000) (hb:b.length≤1000000000):
  aA Tryz.prog 324 [.c (.p (.sl 5 (aT t))),.c (.p (.s a)),.c (.p (.s b))] [] fun r h=>r=.c (.p (.i .i64 (zFd t a b)))∧h=[]:=by
 have hdir:=eF (t:=t) (p:=aS b) ht hs
 have hpa:=eQ ha
 have hpb:=eQ hb
 unfold zFd
 generalize bV a=pa at *
 generalize bV b=pb at *
 generalize aW t (aS b)=db at *
 refine ent aB aK Tryz.func324 rfl rfl fun X0 hX=>?_
 simp only [Tryz.f324,go_sem]
 repeat' (simp only [*,go_sem,Nat.reduceLT,Nat.reduceEqDiff,↓reduceIte,Nat.reduceAdd])
 refine zDB (ME ht hs) rfl (fun _ _=>rfl) fun i hi=>?_
 unfold lQ
 rw [JH hs hi]
 generalize (aR t a).isSome=ga
 repeat' (simp only [*,go_sem,Nat.reduceLT,Nat.reduceEqDiff,↓reduceIte])
 refine zDB (ME ht hs) rfl (fun _ _=>rfl) fun j hj=>?_
 unfold lQ
 rw [JH hs hj]
 generalize (aR t b).isSome=gb
 cases pa <;> cases pb <;> cases ga <;> cases gb <;> cases db
 all_goals repeat' (first|simp only [*,go_sem,Nat.reduceLT,Nat.reduceEqDiff,↓reduceIte,Bool.not_true,Bool.not_false]|((with_reducible refine aQ (hpa) ?_ ?_ ?_);exact rfl;exact rfl)|((with_reducible refine aQ (hpb) ?_ ?_ ?_);exact rfl;exact rfl)|((with_reducible refine aQ (cI ha) ?_ ?_ ?_);exact rfl;exact rfl)|((with_reducible refine aQ (dO hb) ?_ ?_ ?_);exact rfl;exact rfl)|((with_reducible refine aQ (hdir) ?_ ?_ ?_);exact rfl;exact rfl)|with_reducible refine aM (fun _=>?_) (fun _=>?_)|with_reducible refine bF (fun _=>?_) (fun _=>?_))
 all_goals simp_all
theorem zJq {q q':List UInt8} {k k' m m':Int} {t t':Nat} {d d':List UInt8}:
  aA Tryz.prog 325 [.agg [.p (.s q),.p (.i .i64 k),.p (.i .i64 m),.p (.f t),.p (.sl 1 (bT d))],.agg [.p (.s q'),.p (.i .i64 k'),.p (.i .i64 m'),.p (.f t'),.p (.sl 1 (bT d'))]] [] fun r h=>r=.c (.p (.i .i64 (GY q q')))∧h=[]:=by
 refine ent aB aK Tryz.func325 rfl rfl fun X0 hX=>?_
 simp only [Tryz.f325,go_sem]
 repeat' (first|simp only [*,go_sem,Nat.reduceLT,Nat.reduceEqDiff,↓reduceIte]|((with_reducible refine aQ (jK) ?_ ?_ ?_);exact rfl;exact rfl))
theorem zIL {h:aD} {id:Nat} {l:List It} (hu:∀ x∈l,∀ y∈l,x.p=y.p→x=y) (hid:h[id]? = some (.arr 5 (aT l) false)) (hsz:l.length<4611686018427387904):
  aA Tryz.prog 100 [.c (.own id 0 l.length),.c (.clo 325 [])] h fun d h'=>d=.tup []∧h'=h.set id (.arr 5 (aT (fB l)) false):=by
 have:=nC (P:=Tryz.prog) (f:=100) (g:=325) 5 (by decide) cfI RF
  (enters Tryz.func100 rfl rfl) (enters_of Tryz.func325 (by kernel_rfl) rfl)
  (fun enc hk h1 c hO blk off cap d w hcmp hH hblk hsz=>Tryz.slices_SortFunc_f100 5 Tryz.isAgg121 Tryz.sizeOf121 enc hk h1 c hO 325 #[] blk off cap d w (enters_of Tryz.func325 (by kernel_rfl) rfl) hcmp hH hblk hsz)
  (fun p cap fv w=>Tryz.slices_SortFunc_none_f100 (α:=Nat) p cap fv w)
  (h:=h) (i0:=id) (es:=aT l) (fun x hx y hy=>by
   obtain ⟨a,_,rfl⟩:=List.mem_map.1 hx
   obtain ⟨b,_,rfl⟩:=List.mem_map.1 hy
   exact zJq) (LF hu) hid (by rw [cT];exact hsz)
 rw [JA,cT] at this
 exact this
theorem zJr {h:aD} {id:Nat} {l:List It} {K:DV→aD→Prop} (hu:∀ x∈l,∀ y∈l,x.p=y.p→x=y) (hsz:l.length<4611686018427387904) (hid:h[id]? = some (.arr 5 (aT l) false)) (hk:K (.tup []) (h.set id (.arr 5 (aT (fB l)) false))):
  aA Tryz.prog 100 [.c (.own id 0 l.length),.c (.clo 325 [])] h K :=
 aA.mono (zIL hu hid hsz) (by rintro _ _ ⟨rfl,rfl⟩;exact hk)
end
end Go.Proofs.YtbpblnmhlhpebaaGreatDoor
namespace Go.Dm
open Go Go.Sort Go.Proofs
section
def FL (t w:List It) (p:List UInt8):Bool:=t.any fun y=>aO p y.p && (aR w y.p).isSome
def mZ (t w:List It) (p:List UInt8):Bool:=aW w p && (aW t p && (!decide (((fX t p).length:Int)<2) && !FL t w p))
theorem ZF (t w:List It) (p:List UInt8):FL t w p=LA t w p:=by
 unfold FL LA
 congr 1
 funext y
 rw [Bool.and_comm]
theorem zKb {t w:List It} {x:It} (hx:x∈w) (h:zBC t w x=true):isB (iM t w) x.p=true :=
 List.any_eq_true.2 ⟨x.p,List.mem_map.2 ⟨x,List.mem_filter.2 ⟨hx,h⟩,rfl⟩,beq_self_eq_true _⟩
theorem CP {t w:List It} (hw:OkT w) {x:It} (hx:x∈w):((x.n.k == 2) && mZ t w x.p)=isB (iM t w) x.p:=by
 have h0:(x.p == [])=false:=by simpa using hw.ne x hx
 have h1:aW w x.p=(x.n.k == 2):=by
  unfold aW
  rw [cL hw.srt hx,h0,Bool.false_or]
 have h2:((x.n.k == 2) && mZ t w x.p)=zBC t w x:=by
  unfold mZ zBC zBU
  rw [h1,h0,ZF]
  cases x.n.k == 2 <;> cases aW t x.p <;> simp
 rw [h2]
 cases hb:isB (iM t w) x.p
 ·cases ho:zBC t w x
  ·rfl
  ·rw [zKb hx ho] at hb;cases hb
 ·exact GN hw hx hb
def zMf (t w:List It) (q:List UInt8):Bool:=!(aR w q).isSome || (!aW w q || mZ t w q)
theorem zKJ {t w:List It} (hw:OkT w) {q:List UInt8} (hq:q≠[]):zMf t w q=(!(aR w q).isSome || (((aR w q).getD nd0).k != 2 || isB (iM t w) q)):=by
 have h0:(q == [])=false:=by simpa using hq
 unfold zMf
 cases hg:aR w q with
 | none=>rfl
 | some n =>
  obtain ⟨x,hx,rfl,rfl⟩:=bZ hg
  have h1:aW w x.p=(x.n.k == 2):=by
   unfold aW
   rw [hg,h0,Bool.false_or]
  have h2:=CP (t:=t) hw hx
  rw [h1,Option.isSome_some,Option.getD_some,← h2]
  cases hk:x.n.k == 2 <;> simp [bne,hk]
def VW (t w:List It):List En:=(t.filter fun y=>!(aR w y.p).isSome && !HC w (iM t w) y.p).map fun y=>jX y.p
def lV (t w:List It):List En:=gN t (iM t w) w++VW t w
theorem xK {t w:List It} (ht:OkT t) (hw:OkT w) (e:En):e∈fM t w↔e∈lV t w:=by
 rw [(lW ht hw).2 e]
 unfold lV VW
 rw [List.mem_append,List.mem_map]
 constructor
 ·rintro (h|⟨y,hy,rfl,h1,h2⟩)
  ·exact .inl h
  ·exact .inr ⟨y,List.mem_filter.2 ⟨hy,by rw [h1,h2];rfl⟩,rfl⟩
 ·rintro (h|⟨y,hy,rfl⟩)
  ·exact .inl h
  ·obtain ⟨h1,h2⟩:=List.mem_filter.1 hy
   simp only [Bool.and_eq_true,Bool.not_eq_true'] at h2
   exact .inr ⟨y,h1,rfl,h2.1,h2.2⟩
theorem sI {l:List En} (h:ZP l):l.Nodup:=h.imp fun {a b} h e=>by subst e;rw [cM] at h;cases h
theorem SD {t w:List It} (ht:OkT t) (hw:OkT w):(lV t w).Nodup:=by
 unfold lV
 refine List.nodup_append.2 ⟨sI (HK hw.srt),?_,fun a ha b hb e=>?_⟩
 ·have:(VW t w).Pairwise fun x y=>bO x.p y.p=true:=List.pairwise_map.2 ((ht.srt.filter _).imp fun h=>h)
  exact sI this
 ·obtain ⟨x,hx,rfl⟩:=iJ ha
  obtain ⟨y,_,rfl⟩:=List.mem_map.1 hb
  injection e with _ h _ _
  cases h
def leE (x y:En):Bool:=!bO y.p x.p
def zY (l:List En):List En:=l.mergeSort leE
theorem oK (l:List En):(zY l).Perm l:=List.mergeSort_perm _ _
theorem zBb (l:List En):(zY l).length=l.length:=List.length_mergeSort ..
theorem MZ (l:List En):(zY l).Pairwise fun x y=>bO y.p x.p=false:=by
 have h:(zY l).Pairwise fun x y=>leE x y=true:=by
  refine List.pairwise_mergeSort (le:=leE) ?_ ?_ _
  ·intro a b c h1 h2
   simp only [leE,Bool.not_eq_true'] at h1 h2 ⊢
   cases e:bO c.p a.p with
   | false=>rfl
   | true =>
    cases f:bO a.p b.p with
    | true=>have:=cD e f;rw [h2] at this;cases this
    | false=>have:=dS f h1;rw [← this,e] at h2;cases h2
  ·intro a b
   simp only [leE]
   cases h:bO b.p a.p with
   | false=>simp
   | true=>simp [eE h]
 exact h.imp fun h=>by unfold leE at h;simpa using h
theorem zAN {l:List En} (hu:∀ x∈l,∀ y∈l,x.p=y.p→x=y):∀ x∈fV l,∀ y∈fV l,ltOf cfI x y=false→ltOf cfI y x=false→x=y:=by
 rw [KU]
 intro x hx y hy h k
 obtain ⟨a,ha,rfl⟩:=List.mem_map.1 hx
 obtain ⟨b,hb,rfl⟩:=List.mem_map.1 hy
 rw [hu a ha b hb (dS h k)]
theorem zDn (l:List En):(fV l).mergeSort (TC (ltOf cfI))=fV (zY l):=by
 rw [KU]
 unfold fV zY
 exact (List.map_mergeSort (r:=leE) (s:=TC zKO) (f:=En.cs) (l:=l) fun a _ b _=>rfl).symm
theorem NQ {t w:List It} (ht:OkT t) (hw:OkT w):∀ x∈lV t w,∀ y∈lV t w,x.p=y.p→x=y :=
 fun x hx y hy e=>DZ (lW ht hw).1 x ((xK ht hw x).2 hx) y ((xK ht hw y).2 hy) e
theorem zCU {t w:List It} (ht:OkT t) (hw:OkT w):zY (lV t w)=fM t w:=by
 obtain ⟨hs,_⟩:=lW ht hw
 have hinj:=NQ ht hw
 have hnd:(zY (lV t w)).Nodup:=(oK _).nodup_iff.2 (SD ht hw)
 have hstrict:(zY (lV t w)).Pairwise fun x y=>bO x.p y.p=true:=by
  refine ((MZ (lV t w)).and hnd).imp_of_mem fun {a b} ha hb h=>?_
  obtain ⟨h1,h2⟩:=h
  cases h3:bO a.p b.p
  ·exact absurd (hinj a ((oK _).mem_iff.1 ha) b ((oK _).mem_iff.1 hb) (dS h3 h1)) h2
  ·rfl
 exact List.Perm.eq_of_pairwise (le:=fun (x y:En)=>bO x.p y.p=true) (fun _ _ _ _ h k=>by rw [eE h] at k;cases k) hstrict hs
  ((List.perm_ext_iff_of_nodup hnd (sI hs)).2 fun e=>(oK _).mem_iff.trans (xK ht hw e).symm)
end
end Go.Dm
