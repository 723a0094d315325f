/- Part 35 of the proof of roomKnown_card. No condition. -/
import Derived.Test.YtbpblnmhlhpebaaGreatDoorB33
import Derived.Ground.SlsfProg
import Derived.Shelf.SlSortCmp.WholeK
import Derived.Shelf.SlSortCmp.NoneTotal
set_option linter.all false
set_option maxRecDepth 100000
set_option maxHeartbeats 8000000
namespace Go.Proofs.YtbpblnmhlhpebaaGreatDoor
open Go Go.Dm Go.Shelf
section
def PA:Go.Shelf.Ren:=⟨fun | 22=>111 | 29=>178 | 30=>179|n=>n,fun | 24=>69 | 9=>76 | 3=>3 | 4=>4 | 0=>0|n=>n,fun|n=>n⟩
theorem zHP:InsL Tryz.prog PA:={
 mixed:=by kernel_rfl
 f22:=⟨Tryz.f111.name,by decide,Tryz.func111.trans (congrArg some (by kernel_rfl))⟩
 ov:=fun xs w w' v h=>by
  have:=run_callFunc_extern Tryz.func178 (by kernel_rfl) (by kernel_rfl) (by kernel_rfl) (e:=Extern.SlicesOverlaps.overlaps #[69,69] #[4]) (by kernel_rfl) xs w
  refine this.trans ?_
  rw [show (Extern.SlicesOverlaps.overlaps #[69,69] #[4] xs).run Tryz.prog w=.ok v w' from h]
  rfl
 t0:=Tryz.underlying0
 a0:=Tryz.isAgg0
 z0:=Tryz.sizeOf0
 v0:=Tryz.zeroValue0
 t3:=Tryz.underlying3
 a3:=Tryz.isAgg3
 z3:=Tryz.sizeOf3
 v3:=Tryz.zeroValue3
 t4:=Tryz.underlying4
 a4:=Tryz.isAgg4
 z4:=Tryz.sizeOf4
 v4:=Tryz.zeroValue4
 t24:=Tryz.underlying69
 a24:=Tryz.isAgg69
 z24:=Tryz.sizeOf69
 v24:=Tryz.zeroValue69 }
theorem zI8 {h:aC} {id jd n i:Nat} {es:List (List PV)} {x:List PV} (hid:h[id]? = some (.arr 2 es false)) (hjd:h[jd]? = some (.arr 2 [x] false)) (hne:id≠jd) (hn:n≤es.length) (hin:i≤n) (hn2:n≤1000000):
  aA Tryz.prog 111 [.c (.own id 0 n),.c (.p (.i .i64 i)),.c (.own jd 0 1)] h fun d h'=>d=.c (.own (h.length+1) 0 (n+1))∧h'=h.set id .dead++[.dead,.arr 2 (fI i x (es.take n)) false] :=
 rA (k:=2) aB zHP (enters Tryz.func111 rfl rfl) (by show (tab 76).size=2;rw [tab76]) (by decide) (by show (tab 69).k=_;rw [tab69];rfl)
  hid hjd hne hn hin (by show (n+1)*(tab 76).bytes≤_;rw [tab76];simp only;omega) (by omega)
end
end Go.Proofs.YtbpblnmhlhpebaaGreatDoor
namespace Go.Proofs.YtbpblnmhlhpebaaGreatDoor
open Go Go.Dm Go.Proofs
section
def XO (r:Rm):aC:=[.box [.own 4 0 r.N.length,.own 2 0 r.L.length,.mp 3,.p (.i .i64 r.x)],.dead,.arr 4 (dS r.L) false,.mp (wC r.E),.arr 2 (bW r.N) false]
attribute [go_sem] XO
theorem zIo {h:aC} {id jd n i:Nat} {es:List (List PV)} {x:List PV} {K:DV→aC→Prop} (hid:h[id]? = some (.arr 2 es false)) (hjd:h[jd]? = some (.arr 2 [x] false)) (hne:id≠jd) (hn:n≤es.length) (hin:i≤n) (hn2:n≤1000000)
  (hk:K (.c (.own (h.length+1) 0 (n+1))) (h.set id .dead++[.dead,.arr 2 (fI i x (es.take n)) false])):
  aA Tryz.prog 111 [.c (.own id 0 n),.c (.p (.i .i64 i)),.c (.own jd 0 1)] h K :=
 aA.mono (zI8 hid hjd hne hn hin hn2) (by rintro _ _ ⟨rfl,rfl⟩;exact hk)
theorem zCB (N:List Nm) (s:List UInt8):jR N s≤N.length:=by
 unfold jR
 exact (List.takeWhile_sublist _).length_le
theorem KT {r:Rm} {s:List UInt8} {n:Int} (hl:r.N.length≤1000) (hs:AK r.N):aA Tryz.prog 50 [.c (.ptr 0 0),.c (.p (.s s)),.c (.p (.i .i64 n))] (bH r) fun d h=>d=.tup []∧h=XO ⟨bX r.N s n,r.L,r.E,r.x⟩:=by
 have hf:=oF (r:=r) (s:=s) (Nat.le_trans hl (by decide)) hs
 rcases PT hs (s:=s) with ⟨h1,h2⟩|⟨x,h1,h2,h3,h4⟩
 ·rw [h1] at hf
  have hle:=zCB r.N s
  have hlen:=gE r.N
  have hins:fI (jR r.N s) [.s s,.i .i64 n] ((bW r.N).take r.N.length)=bW (bX r.N s n):=by
   rw [MF h1,← hlen,List.take_length]
   simp [fI,bW,List.map_take,List.map_drop]
  have hcl:(bX r.N s n).length=r.N.length+1:=by
   have:=congrArg List.length hins
   rw [gE,← hlen,List.take_length,xZ (by omega)] at this
   omega
  have hik:∀ {h:aC} {jd:Nat} {K:DV→aC→Prop},h[1]? = some (.arr 2 (bW r.N) false)→h[jd]? = some (.arr 2 [[.s s,.i .i64 n]] false)→1≠jd→K (.c (.own (h.length+1) 0 (r.N.length+1))) (h.set 1 .dead++[.dead,.arr 2 (bW (bX r.N s n)) false])→aA Tryz.prog 111 [.c (.own 1 0 r.N.length),.c (.p (.i .i64 (jR r.N s))),.c (.own jd 0 1)] h K:=fun h0 h1 hne hk=>zIo h0 h1 hne (by omega) hle (by omega) (by rw [hins];exact hk)
  rw [← hcl] at hik
  generalize bX r.N s n=M at hik hcl ⊢
  generalize jR r.N s=i at hf hle hik
  clear hins h1 h2
  refine aA.perm [0,1,2,3,6] (d1:=.tup []) (h1:=[.box [.own 6 0 M.length,.own 2 0 r.L.length,.mp 3,.p (.i .i64 r.x)],.dead,.arr 4 (dS r.L) false,.mp (wC r.E),.arr 2 [[.s s,.i .i64 n]] false,.dead,.arr 2 (bW M) false]) ?_ rfl rfl (by unfold XO;exact (by simp only [eO,fJ,fL,eP,jS];(repeat' (first|exact rfl|exact True.intro|refine And.intro ?_ ?_))))
  refine sK aB aK Tryz.func50 rfl rfl fun X0 hX=>?_
  simp only [Tryz.f50,go_sem]
  repeat' (first|simp only [*,go_sem,Nat.reduceLT,Nat.reduceLeDiff,Nat.reduceEqDiff,↓reduceIte,Nat.reduceAdd,Nat.reduceMul]|((with_reducible refine aL [0,1,2,3] (hf) ?_ ?_ ?_ ?_);exact rfl;exact rfl;(focus ((simp only [go_sem];done))))|refine hik rfl rfl (by decide) ?_|((with_reducible refine And.intro ?_ ?_);decide))
 ·rw [h1] at hf
  have hlt:=(List.getElem?_eq_some_iff.1 h3).1
  have hg:=qL h3
  have k2:(0:Int)≤(jR r.N s:Int):=by omega
  have k3:(jR r.N s:Int)<(r.N.length:Int):=by omega
  have hset:bX r.N s n=r.N.set (jR r.N s) ⟨x.n,n⟩:=by
   have:=nY hs (List.mem_of_getElem? h3) n
   rw [h4] at this ⊢
   exact this
  rw [hset]
  generalize jR r.N s=i at hf hlt hg k2 k3 ⊢
  clear h1 h2 h3 hset
  refine aA.perm [0,4,2,3,1] (d1:=.tup []) (h1:=bH ⟨r.N.set i ⟨x.n,n⟩,r.L,r.E,r.x⟩) ?_ rfl rfl (by unfold XO bH;exact (by simp only [eO,fJ,fL,eP,jS];(repeat' (first|exact rfl|exact True.intro|refine And.intro ?_ ?_))))
  have hsl:(r.N.set i ⟨x.n,n⟩).length=r.N.length:=List.length_set
  refine sK aB aK Tryz.func50 rfl rfl fun X0 hX=>?_
  simp only [Tryz.f50,go_sem]
  repeat' (first|simp only [*,go_sem,Nat.reduceLT,Nat.reduceLeDiff,Nat.reduceEqDiff,↓reduceIte,Nat.reduceAdd]|((with_reducible refine aL [0,1,2,3] (hf) ?_ ?_ ?_ ?_);exact rfl;exact rfl;(focus ((simp only [go_sem];done)))))
  all_goals rw [List.length_set]
end
section
theorem rH {r:Rm} {s:List UInt8} {i0 p q:Int} {es:List En} (hr:OkR r) (h3:OkR ⟨bX r.N s r.x,r.L++[⟨r.x,p,q,false⟩],mW r.E r.x es,r.x+1⟩) (hg:OkG (r.L++[⟨r.x,p,q,false⟩])):
  aA Tryz.prog 51 [.c (.ptr 0 0),.c (.p (.s s)),.agg [.p (.i .i64 i0),.p (.i .i64 p),.p (.i .i64 q),.p (.b false)],.c (.p (.sl 7 (gN es)))] (bH r) fun d h=>d=.tup []∧h=fO (ZJ r s p q es):=by
 have hpu:=KT (r:=⟨r.N,r.L++[⟨r.x,p,q,false⟩],mW r.E r.x es,r.x+1⟩) (s:=s) (n:=r.x) (by have:=hr.nl;simp only;omega) hr.srt
 have hcl:=zAC h3 hg
 have hx:=hr.x
 have hll:=hr.ll
 have w1:IntKind.i64.wrap (r.x+1)=r.x+1:=wrap_i64 (by omega) (by omega)
 unfold ZJ
 generalize CL ⟨bX r.N s r.x,r.L++[⟨r.x,p,q,false⟩],mW r.E r.x es,r.x+1⟩=c at hcl ⊢
 have hlp:(r.L++[(⟨r.x,p,q,false⟩:Ly)]).length=r.L.length+1:=by simp
 generalize bX r.N s r.x=M at hpu hcl
 unfold XO bH at hpu
 unfold bH at hcl
 simp only [hlp] at hpu hcl
 refine aA.perm [0,1,2,3,8,9,10] (d1:=.tup []) (h1:=[.box [.own 8 0 c.N.length,.own 9 0 c.L.length,.mp 10,.p (.i .i64 c.x)],.dead,.dead,.dead,.box [.p (.i .i64 r.x),.p (.i .i64 p),.p (.i .i64 q),.p (.b false)],.arr 4 [[.i .i64 r.x,.i .i64 p,.i .i64 q,.b false]] false,.dead,.dead,.arr 2 (bW c.N) false,.arr 4 (dS c.L) false,.mp (wC c.E)]) ?_ rfl rfl (by unfold fO;exact (by simp only [eO,fJ,fL,eP,jS];(repeat' (first|exact rfl|exact True.intro|refine And.intro ?_ ?_))))
 clear h3 hg hr
 refine sK aB aK Tryz.func51 rfl rfl fun X0 hX=>?_
 simp only [Tryz.f51,go_sem]
 repeat' (first|simp only [*,go_sem,Nat.reduceLT,Nat.reduceLeDiff,Nat.reduceEqDiff,↓reduceIte,Nat.reduceAdd,Nat.reduceSub]|((with_reducible refine aL [0,1,6,3] (hpu) ?_ ?_ ?_ ?_);exact rfl;exact rfl;(focus ((simp only [go_sem];done))))|((with_reducible refine aL [0,7,6,3] (hcl) ?_ ?_ ?_ ?_);exact rfl;exact rfl;(focus ((simp only [go_sem];done))))|((refine aN (id:=3) aB aK [6,7,10] [5,6,1,2,3,4,7,0,8,9,10] (by decide +kernel) ?_);(repeat' (first|(refine aW ?_)|((refine cX ?_ ?_ rfl rfl rfl ?_ ?_);(rotate_left 2);(focus ((repeat' (first|simp only [*,go_sem,Nat.reduceLT,Nat.reduceLeDiff,Nat.reduceEqDiff,↓reduceIte,Nat.reduceAdd,Nat.reduceMul,Nat.reduceBEq]|((with_reducible refine And.intro ?_ ?_);((first|omega|decide)))));((refine And.intro ?_ ?_ <;> exact rfl))));(simp only [aF,bK]))|((refine cY ?_ rfl rfl rfl ?_ ?_);(rotate_left 1);(focus ((repeat' (first|exact bJ|refine aZ ?_ ?_));(all_goals ((repeat' (simp only [*,go_sem,Nat.reduceLT,Nat.reduceLeDiff,Nat.reduceEqDiff,↓reduceIte,Nat.reduceAdd]));(try (exact rfl))))));(simp only [aF])))))|((refine aN (id:=4) aB aK [7] [0,1,2,3,4,5,6,7] (by decide +kernel) ?_);(repeat' (first|(refine aW ?_)|((refine cX ?_ ?_ rfl rfl rfl ?_ ?_);(rotate_left 2);(focus ((repeat' (simp only [*,go_sem,Nat.reduceEqDiff,↓reduceIte]));((refine And.intro ?_ ?_ <;> exact rfl))));(simp only [bK]))|((refine cY ?_ rfl rfl rfl ?_ ?_);(rotate_left 1);(focus ((repeat' (first|exact bJ|refine aZ ?_ ?_));(all_goals ((repeat' (simp only [*,go_sem,Nat.reduceLT,Nat.reduceEqDiff,↓reduceIte]));(try (exact rfl))))));(simp only [aF]))))))
end
end Go.Proofs.YtbpblnmhlhpebaaGreatDoor
namespace Go.Proofs
open Go.Shelf
section
def Tryz.laysSlF06_f100_ren:Go.Shelf.Ren:=⟨fun | 6=>100 | 15=>167 | 14=>166 | 28=>240 | 29=>241 | 20=>232 | 21=>233 | 22=>234 | 23=>235 | 24=>236 | 25=>237 | 26=>238 | 27=>239 | 46=>308 | 47=>309 | 48=>310 | 49=>311 | 50=>312 | 57=>359|n=>n,fun | 22=>26 | 24=>121 | 25=>173 | 3=>3 | 39=>233 | 0=>0 | 53=>293 | 55=>184 | 4=>4 | 46=>287 | 45=>286 | 50=>137 | 5=>5 | 9=>9 | 66=>332 | 70=>336 | 76=>363 | 77=>339|n=>n,fun|n=>n⟩
theorem Tryz.laysSlF06_f100:Go.Proofs.SlLaysF0.n6 Tryz.prog Tryz.laysSlF06_f100_ren:={
 mixed:=by kernel_rfl
 f6:=⟨Tryz.f100.name,by decide,Tryz.func100.trans (congrArg some (by kernel_rfl))⟩
 f14:=⟨Tryz.f166.name,by decide,Tryz.func166.trans (congrArg some (by kernel_rfl))⟩
 f15:=Tryz.func167.trans (congrArg some (by kernel_rfl))
 f20:=⟨Tryz.f232.name,by decide,Tryz.func232.trans (congrArg some (by kernel_rfl))⟩
 f21:=⟨Tryz.f233.name,by decide,Tryz.func233.trans (congrArg some (by kernel_rfl))⟩
 f22:=⟨Tryz.f234.name,by decide,Tryz.func234.trans (congrArg some (by kernel_rfl))⟩
 f23:=⟨Tryz.f235.name,by decide,Tryz.func235.trans (congrArg some (by kernel_rfl))⟩
 f24:=⟨Tryz.f236.name,by decide,Tryz.func236.trans (congrArg some (by kernel_rfl))⟩
 f25:=⟨Tryz.f237.name,by decide,Tryz.func237.trans (congrArg some (by kernel_rfl))⟩
 f26:=⟨Tryz.f238.name,by decide,Tryz.func238.trans (congrArg some (by kernel_rfl))⟩
 f27:=⟨Tryz.f239.name,by decide,Tryz.func239.trans (congrArg some (by kernel_rfl))⟩
 f28:=Tryz.func240.trans (congrArg some (by kernel_rfl))
 f29:=Tryz.func241.trans (congrArg some (by kernel_rfl))
 f46:=⟨Tryz.f308.name,by decide,Tryz.func308.trans (congrArg some (by kernel_rfl))⟩
 f47:=Tryz.func309.trans (congrArg some (by kernel_rfl))
 f48:=Tryz.func310.trans (congrArg some (by kernel_rfl))
 f49:=⟨Tryz.f311.name,by decide,Tryz.func311.trans (congrArg some (by kernel_rfl))⟩
 f50:=⟨Tryz.f312.name,by decide,Tryz.func312.trans (congrArg some (by kernel_rfl))⟩
 f57:=⟨Tryz.f359.name,by decide,Tryz.func359.trans (congrArg some (by kernel_rfl))⟩
 t0:=Tryz.underlying0
 a0:=Tryz.isAgg0
 z0:=Tryz.sizeOf0
 v0:=Tryz.zeroValue0
 t3:=Tryz.underlying3
 a3:=Tryz.isAgg3
 z3:=Tryz.sizeOf3
 v3:=Tryz.zeroValue3
 t4:=Tryz.underlying4
 a4:=Tryz.isAgg4
 z4:=Tryz.sizeOf4
 v4:=Tryz.zeroValue4
 t5:=Tryz.underlying5
 a5:=Tryz.isAgg5
 z5:=Tryz.sizeOf5
 v5:=Tryz.zeroValue5
 t9:=Tryz.underlying9
 a9:=Tryz.isAgg9
 z9:=Tryz.sizeOf9
 v9:=Tryz.zeroValue9
 t22:=Tryz.underlying26
 a22:=Tryz.isAgg26
 z22:=Tryz.sizeOf26
 v22:=Tryz.zeroValue26
 t25:=Tryz.underlying173
 a25:=Tryz.isAgg173
 z25:=Tryz.sizeOf173
 v25:=Tryz.zeroValue173
 t39:=Tryz.underlying233
 a39:=Tryz.isAgg233
 z39:=Tryz.sizeOf233
 v39:=Tryz.zeroValue233
 t45:=Tryz.underlying286
 a45:=Tryz.isAgg286
 z45:=Tryz.sizeOf286
 v45:=Tryz.zeroValue286
 t46:=Tryz.underlying287
 a46:=Tryz.isAgg287
 z46:=Tryz.sizeOf287
 v46:=Tryz.zeroValue287
 t50:=Tryz.underlying137
 a50:=Tryz.isAgg137
 z50:=Tryz.sizeOf137
 v50:=Tryz.zeroValue137
 t53:=Tryz.underlying293
 a53:=Tryz.isAgg293
 z53:=Tryz.sizeOf293
 v53:=Tryz.zeroValue293
 t55:=Tryz.underlying184
 a55:=Tryz.isAgg184
 z55:=Tryz.sizeOf184
 v55:=Tryz.zeroValue184
 t66:=Tryz.underlying332
 a66:=Tryz.isAgg332
 z66:=Tryz.sizeOf332
 v66:=Tryz.zeroValue332
 t70:=Tryz.underlying336
 a70:=Tryz.isAgg336
 z70:=Tryz.sizeOf336
 v70:=Tryz.zeroValue336
 t76:=Tryz.underlying363
 a76:=Tryz.isAgg363
 z76:=Tryz.sizeOf363
 v76:=Tryz.zeroValue363
 t77:=Tryz.underlying339
 a77:=Tryz.isAgg339
 z77:=Tryz.sizeOf339
 v77:=Tryz.zeroValue339 }
def Tryz.laysSlF06_f130_ren:Go.Shelf.Ren:=⟨fun | 6=>130 | 15=>167 | 14=>206 | 28=>240 | 29=>241 | 20=>280 | 21=>281 | 22=>282 | 23=>283 | 24=>284 | 25=>285 | 26=>286 | 27=>287 | 46=>347 | 47=>309 | 48=>310 | 49=>348 | 50=>349 | 57=>378|n=>n,fun | 22=>135 | 24=>202 | 25=>204 | 3=>3 | 39=>233 | 0=>0 | 53=>293 | 55=>184 | 4=>4 | 46=>287 | 45=>286 | 50=>137 | 5=>5 | 9=>9 | 66=>332 | 70=>336 | 76=>363 | 77=>339|n=>n,fun|n=>n⟩
theorem Tryz.laysSlF06_f130:Go.Proofs.SlLaysF0.n6 Tryz.prog Tryz.laysSlF06_f130_ren:={
 mixed:=by kernel_rfl
 f6:=⟨Tryz.f130.name,by decide,Tryz.func130.trans (congrArg some (by kernel_rfl))⟩
 f14:=⟨Tryz.f206.name,by decide,Tryz.func206.trans (congrArg some (by kernel_rfl))⟩
 f15:=Tryz.func167.trans (congrArg some (by kernel_rfl))
 f20:=⟨Tryz.f280.name,by decide,Tryz.func280.trans (congrArg some (by kernel_rfl))⟩
 f21:=⟨Tryz.f281.name,by decide,Tryz.func281.trans (congrArg some (by kernel_rfl))⟩
 f22:=⟨Tryz.f282.name,by decide,Tryz.func282.trans (congrArg some (by kernel_rfl))⟩
 f23:=⟨Tryz.f283.name,by decide,Tryz.func283.trans (congrArg some (by kernel_rfl))⟩
 f24:=⟨Tryz.f284.name,by decide,Tryz.func284.trans (congrArg some (by kernel_rfl))⟩
 f25:=⟨Tryz.f285.name,by decide,Tryz.func285.trans (congrArg some (by kernel_rfl))⟩
 f26:=⟨Tryz.f286.name,by decide,Tryz.func286.trans (congrArg some (by kernel_rfl))⟩
 f27:=⟨Tryz.f287.name,by decide,Tryz.func287.trans (congrArg some (by kernel_rfl))⟩
 f28:=Tryz.func240.trans (congrArg some (by kernel_rfl))
 f29:=Tryz.func241.trans (congrArg some (by kernel_rfl))
 f46:=⟨Tryz.f347.name,by decide,Tryz.func347.trans (congrArg some (by kernel_rfl))⟩
 f47:=Tryz.func309.trans (congrArg some (by kernel_rfl))
 f48:=Tryz.func310.trans (congrArg some (by kernel_rfl))
 f49:=⟨Tryz.f348.name,by decide,Tryz.func348.trans (congrArg some (by kernel_rfl))⟩
 f50:=⟨Tryz.f349.name,by decide,Tryz.func349.trans (congrArg some (by kernel_rfl))⟩
 f57:=⟨Tryz.f378.name,by decide,Tryz.func378.trans (congrArg some (by kernel_rfl))⟩
 t0:=Tryz.underlying0
 a0:=Tryz.isAgg0
 z0:=Tryz.sizeOf0
 v0:=Tryz.zeroValue0
 t3:=Tryz.underlying3
 a3:=Tryz.isAgg3
 z3:=Tryz.sizeOf3
 v3:=Tryz.zeroValue3
 t4:=Tryz.underlying4
 a4:=Tryz.isAgg4
 z4:=Tryz.sizeOf4
 v4:=Tryz.zeroValue4
 t5:=Tryz.underlying5
 a5:=Tryz.isAgg5
 z5:=Tryz.sizeOf5
 v5:=Tryz.zeroValue5
 t9:=Tryz.underlying9
 a9:=Tryz.isAgg9
 z9:=Tryz.sizeOf9
 v9:=Tryz.zeroValue9
 t22:=Tryz.underlying135
 a22:=Tryz.isAgg135
 z22:=Tryz.sizeOf135
 v22:=Tryz.zeroValue135
 t25:=Tryz.underlying204
 a25:=Tryz.isAgg204
 z25:=Tryz.sizeOf204
 v25:=Tryz.zeroValue204
 t39:=Tryz.underlying233
 a39:=Tryz.isAgg233
 z39:=Tryz.sizeOf233
 v39:=Tryz.zeroValue233
 t45:=Tryz.underlying286
 a45:=Tryz.isAgg286
 z45:=Tryz.sizeOf286
 v45:=Tryz.zeroValue286
 t46:=Tryz.underlying287
 a46:=Tryz.isAgg287
 z46:=Tryz.sizeOf287
 v46:=Tryz.zeroValue287
 t50:=Tryz.underlying137
 a50:=Tryz.isAgg137
 z50:=Tryz.sizeOf137
 v50:=Tryz.zeroValue137
 t53:=Tryz.underlying293
 a53:=Tryz.isAgg293
 z53:=Tryz.sizeOf293
 v53:=Tryz.zeroValue293
 t55:=Tryz.underlying184
 a55:=Tryz.isAgg184
 z55:=Tryz.sizeOf184
 v55:=Tryz.zeroValue184
 t66:=Tryz.underlying332
 a66:=Tryz.isAgg332
 z66:=Tryz.sizeOf332
 v66:=Tryz.zeroValue332
 t70:=Tryz.underlying336
 a70:=Tryz.isAgg336
 z70:=Tryz.sizeOf336
 v70:=Tryz.zeroValue336
 t76:=Tryz.underlying363
 a76:=Tryz.isAgg363
 z76:=Tryz.sizeOf363
 v76:=Tryz.zeroValue363
 t77:=Tryz.underlying339
 a77:=Tryz.isAgg339
 z77:=Tryz.sizeOf339
 v77:=Tryz.zeroValue339 }
def Tryz.laysSlF06_f265_ren:Go.Shelf.Ren:=⟨fun | 6=>265 | 15=>167 | 14=>332 | 28=>240 | 29=>241 | 20=>367 | 21=>368 | 22=>369 | 23=>370 | 24=>371 | 25=>372 | 26=>373 | 27=>374 | 46=>388 | 47=>309 | 48=>310 | 49=>389 | 50=>390 | 57=>397|n=>n,fun | 22=>50 | 24=>221 | 25=>309 | 3=>3 | 39=>233 | 0=>0 | 53=>293 | 55=>184 | 4=>4 | 46=>287 | 45=>286 | 50=>137 | 5=>5 | 9=>9 | 66=>332 | 70=>336 | 76=>363 | 77=>339|n=>n,fun|n=>n⟩
theorem Tryz.laysSlF06_f265:Go.Proofs.SlLaysF0.n6 Tryz.prog Tryz.laysSlF06_f265_ren:={
 mixed:=by kernel_rfl
 f6:=⟨Tryz.f265.name,by decide,Tryz.func265.trans (congrArg some (by kernel_rfl))⟩
 f14:=⟨Tryz.f332.name,by decide,Tryz.func332.trans (congrArg some (by kernel_rfl))⟩
 f15:=Tryz.func167.trans (congrArg some (by kernel_rfl))
 f20:=⟨Tryz.f367.name,by decide,Tryz.func367.trans (congrArg some (by kernel_rfl))⟩
 f21:=⟨Tryz.f368.name,by decide,Tryz.func368.trans (congrArg some (by kernel_rfl))⟩
 f22:=⟨Tryz.f369.name,by decide,Tryz.func369.trans (congrArg some (by kernel_rfl))⟩
 f23:=⟨Tryz.f370.name,by decide,Tryz.func370.trans (congrArg some (by kernel_rfl))⟩
 f24:=⟨Tryz.f371.name,by decide,Tryz.func371.trans (congrArg some (by kernel_rfl))⟩
 f25:=⟨Tryz.f372.name,by decide,Tryz.func372.trans (congrArg some (by kernel_rfl))⟩
 f26:=⟨Tryz.f373.name,by decide,Tryz.func373.trans (congrArg some (by kernel_rfl))⟩
 f27:=⟨Tryz.f374.name,by decide,Tryz.func374.trans (congrArg some (by kernel_rfl))⟩
 f28:=Tryz.func240.trans (congrArg some (by kernel_rfl))
 f29:=Tryz.func241.trans (congrArg some (by kernel_rfl))
 f46:=⟨Tryz.f388.name,by decide,Tryz.func388.trans (congrArg some (by kernel_rfl))⟩
 f47:=Tryz.func309.trans (congrArg some (by kernel_rfl))
 f48:=Tryz.func310.trans (congrArg some (by kernel_rfl))
 f49:=⟨Tryz.f389.name,by decide,Tryz.func389.trans (congrArg some (by kernel_rfl))⟩
 f50:=⟨Tryz.f390.name,by decide,Tryz.func390.trans (congrArg some (by kernel_rfl))⟩
 f57:=⟨Tryz.f397.name,by decide,Tryz.func397.trans (congrArg some (by kernel_rfl))⟩
 t0:=Tryz.underlying0
 a0:=Tryz.isAgg0
 z0:=Tryz.sizeOf0
 v0:=Tryz.zeroValue0
 t3:=Tryz.underlying3
 a3:=Tryz.isAgg3
 z3:=Tryz.sizeOf3
 v3:=Tryz.zeroValue3
 t4:=Tryz.underlying4
 a4:=Tryz.isAgg4
 z4:=Tryz.sizeOf4
 v4:=Tryz.zeroValue4
 t5:=Tryz.underlying5
 a5:=Tryz.isAgg5
 z5:=Tryz.sizeOf5
 v5:=Tryz.zeroValue5
 t9:=Tryz.underlying9
 a9:=Tryz.isAgg9
 z9:=Tryz.sizeOf9
 v9:=Tryz.zeroValue9
 t22:=Tryz.underlying50
 a22:=Tryz.isAgg50
 z22:=Tryz.sizeOf50
 v22:=Tryz.zeroValue50
 t25:=Tryz.underlying309
 a25:=Tryz.isAgg309
 z25:=Tryz.sizeOf309
 v25:=Tryz.zeroValue309
 t39:=Tryz.underlying233
 a39:=Tryz.isAgg233
 z39:=Tryz.sizeOf233
 v39:=Tryz.zeroValue233
 t45:=Tryz.underlying286
 a45:=Tryz.isAgg286
 z45:=Tryz.sizeOf286
 v45:=Tryz.zeroValue286
 t46:=Tryz.underlying287
 a46:=Tryz.isAgg287
 z46:=Tryz.sizeOf287
 v46:=Tryz.zeroValue287
 t50:=Tryz.underlying137
 a50:=Tryz.isAgg137
 z50:=Tryz.sizeOf137
 v50:=Tryz.zeroValue137
 t53:=Tryz.underlying293
 a53:=Tryz.isAgg293
 z53:=Tryz.sizeOf293
 v53:=Tryz.zeroValue293
 t55:=Tryz.underlying184
 a55:=Tryz.isAgg184
 z55:=Tryz.sizeOf184
 v55:=Tryz.zeroValue184
 t66:=Tryz.underlying332
 a66:=Tryz.isAgg332
 z66:=Tryz.sizeOf332
 v66:=Tryz.zeroValue332
 t70:=Tryz.underlying336
 a70:=Tryz.isAgg336
 z70:=Tryz.sizeOf336
 v70:=Tryz.zeroValue336
 t76:=Tryz.underlying363
 a76:=Tryz.isAgg363
 z76:=Tryz.sizeOf363
 v76:=Tryz.zeroValue363
 t77:=Tryz.underlying339
 a77:=Tryz.isAgg339
 z77:=Tryz.sizeOf339
 v77:=Tryz.zeroValue339 }
open Go.RowKit Go.Lib Go.Sort in
theorem Tryz.slices_SortFunc_f100 {α:Type} [Inhabited α] (k:Nat) (aE:∀ w,(isAgg 121).run Tryz.prog w=.ok true w) (zE:∀ w,(Go.sizeOf 121).run Tryz.prog w=.ok k w) (enc:α→List Value) (hk:∀ x,(enc x).length=k) (h1:∀ x,∀ v∈enc x,v.oneCell'=true) (cf:α→α→Int) (hO:SWO (ltOf cf)) (g:Nat) (cb:Array Value) (blk off cap:Nat) (d:Array α) (w:World) (eg:∀ args w,(callFunc g args).run Tryz.prog w=.ok (.enter g args) w) (hcmp:CmpLays Tryz.prog g cb enc k cf blk off d.size w) (hH:HoldsK enc k w blk off d) (hblk:blk<w.heap.size) (hsz:d.size<4611686018427387904):
  Calls Tryz.prog 100 #[.slice (some ⟨blk,off,none⟩) d.size cap,.func (.func g) #[] cb] w fun e w' =>
   e=.returned (.tuple #[])∧∃ d' n os,PermIn 0 d.size d d'∧SortedIn (ltOf cf) 0 d.size d'∧w'=sortWorldK enc k w blk off n d' os:=AnyQ.slices_SortFunc Tryz.laysSlF06_f100 k aE zE enc hk h1 cf hO g cb blk off cap d w eg hcmp hH hblk hsz
open Go.RowKit Go.Lib Go.Sort in
theorem Tryz.slices_SortFunc_f130 {α:Type} [Inhabited α] (k:Nat) (aE:∀ w,(isAgg 202).run Tryz.prog w=.ok true w) (zE:∀ w,(Go.sizeOf 202).run Tryz.prog w=.ok k w) (enc:α→List Value) (hk:∀ x,(enc x).length=k) (h1:∀ x,∀ v∈enc x,v.oneCell'=true) (cf:α→α→Int) (hO:SWO (ltOf cf)) (g:Nat) (cb:Array Value) (blk off cap:Nat) (d:Array α) (w:World) (eg:∀ args w,(callFunc g args).run Tryz.prog w=.ok (.enter g args) w) (hcmp:CmpLays Tryz.prog g cb enc k cf blk off d.size w) (hH:HoldsK enc k w blk off d) (hblk:blk<w.heap.size) (hsz:d.size<4611686018427387904):
  Calls Tryz.prog 130 #[.slice (some ⟨blk,off,none⟩) d.size cap,.func (.func g) #[] cb] w fun e w' =>
   e=.returned (.tuple #[])∧∃ d' n os,PermIn 0 d.size d d'∧SortedIn (ltOf cf) 0 d.size d'∧w'=sortWorldK enc k w blk off n d' os:=AnyQ.slices_SortFunc Tryz.laysSlF06_f130 k aE zE enc hk h1 cf hO g cb blk off cap d w eg hcmp hH hblk hsz
open Go.RowKit Go.Lib Go.Sort in
theorem Tryz.slices_SortFunc_f265 {α:Type} [Inhabited α] (k:Nat) (aE:∀ w,(isAgg 221).run Tryz.prog w=.ok true w) (zE:∀ w,(Go.sizeOf 221).run Tryz.prog w=.ok k w) (enc:α→List Value) (hk:∀ x,(enc x).length=k) (h1:∀ x,∀ v∈enc x,v.oneCell'=true) (cf:α→α→Int) (hO:SWO (ltOf cf)) (g:Nat) (cb:Array Value) (blk off cap:Nat) (d:Array α) (w:World) (eg:∀ args w,(callFunc g args).run Tryz.prog w=.ok (.enter g args) w) (hcmp:CmpLays Tryz.prog g cb enc k cf blk off d.size w) (hH:HoldsK enc k w blk off d) (hblk:blk<w.heap.size) (hsz:d.size<4611686018427387904):
  Calls Tryz.prog 265 #[.slice (some ⟨blk,off,none⟩) d.size cap,.func (.func g) #[] cb] w fun e w' =>
   e=.returned (.tuple #[])∧∃ d' n os,PermIn 0 d.size d d'∧SortedIn (ltOf cf) 0 d.size d'∧w'=sortWorldK enc k w blk off n d' os:=AnyQ.slices_SortFunc Tryz.laysSlF06_f265 k aE zE enc hk h1 cf hO g cb blk off cap d w eg hcmp hH hblk hsz
open Go.RowKit Go.Lib Go.Sort in
theorem Tryz.slices_SortFunc_none_f100 {α:Type} [Inhabited α] (p:Option Addr) (cap:Nat) (fv:Value) (w:World):
  Calls Tryz.prog 100 #[.slice p 0 cap,fv] w fun e w'=>e=.returned (.tuple #[])∧w'=w:=AnyF.slices_SortFunc_none Tryz.laysSlF06_f100 p cap fv w
open Go.RowKit Go.Lib Go.Sort in
theorem Tryz.slices_SortFunc_none_f130 {α:Type} [Inhabited α] (p:Option Addr) (cap:Nat) (fv:Value) (w:World):
  Calls Tryz.prog 130 #[.slice p 0 cap,fv] w fun e w'=>e=.returned (.tuple #[])∧w'=w:=AnyF.slices_SortFunc_none Tryz.laysSlF06_f130 p cap fv w
open Go.RowKit Go.Lib Go.Sort in
theorem Tryz.slices_SortFunc_none_f265 {α:Type} [Inhabited α] (p:Option Addr) (cap:Nat) (fv:Value) (w:World):
  Calls Tryz.prog 265 #[.slice p 0 cap,fv] w fun e w'=>e=.returned (.tuple #[])∧w'=w:=AnyF.slices_SortFunc_none Tryz.laysSlF06_f265 p cap fv w
end
end Go.Proofs
namespace Go.Proofs.YtbpblnmhlhpebaaGreatDoor
open Go Go.Dm Go.Proofs
section
theorem JW {t:List It} {p:List UInt8} {i:Nat} (hs:Srt t) (h:GK t p i):fZ t p i=(aQ t p).isSome:=by
 cases hf:fZ t p i
 ·rw [NS hs h hf];rfl
 ·unfold fZ at hf
  cases hx:t[i]? with
  | none=>rw [hx] at hf;cases hf
  | some x=>rw [hx] at hf;rw [DJ hs hx hf];rfl
def zF2 (t:List It) (a b:List UInt8):Int :=
 if a == [] || b == [] || !cG a || !cG b then 1 else if !(aQ t a).isSome then 6 else if aP a b then 18 else if (aQ t b).isSome then 7 else if !aY t (aR b) then 9 else 0
theorem zAH {t:List It} {a b:List UInt8} (ht:t.length≤1000000) (hs:Srt t) (ha:a.length≤1000000000) (hb:b.length≤1000000000):
  aA Tryz.prog 324 [.c (.p (.sl 5 (aV t))),.c (.p (.s a)),.c (.p (.s b))] [] fun r h=>r=.c (.p (.i .i64 (zF2 t a b)))∧h=[]:=by
 have hdir:=eC (t:=t) (p:=aR b) ht hs
 have hpa:=fE ha
 have hpb:=fE hb
 unfold zF2
 generalize cG a=pa at *
 generalize cG b=pb at *
 generalize aY t (aR b)=db at *
 refine ent aB aK Tryz.func324 rfl rfl fun X0 hX=>?_
 simp only [Tryz.f324,go_sem]
 repeat' (simp only [*,go_sem,Nat.reduceLT,Nat.reduceEqDiff,↓reduceIte,Nat.reduceAdd])
 refine zA9 (JS ht hs) rfl (fun _ _=>rfl) fun i hi=>?_
 unfold lU
 rw [JW hs hi]
 generalize (aQ t a).isSome=ga
 repeat' (simp only [*,go_sem,Nat.reduceLT,Nat.reduceEqDiff,↓reduceIte])
 refine zA9 (JS ht hs) rfl (fun _ _=>rfl) fun j hj=>?_
 unfold lU
 rw [JW hs hj]
 generalize (aQ t b).isSome=gb
 cases pa <;> cases pb <;> cases ga <;> cases gb <;> cases db
 all_goals repeat' (first|simp only [*,go_sem,Nat.reduceLT,Nat.reduceEqDiff,↓reduceIte,Bool.not_true,Bool.not_false]|((with_reducible refine aS (hpa) ?_ ?_ ?_);exact rfl;exact rfl)|((with_reducible refine aS (hpb) ?_ ?_ ?_);exact rfl;exact rfl)|((with_reducible refine aS (cL ha) ?_ ?_ ?_);exact rfl;exact rfl)|((with_reducible refine aS (dJ hb) ?_ ?_ ?_);exact rfl;exact rfl)|((with_reducible refine aS (hdir) ?_ ?_ ?_);exact rfl;exact rfl)|with_reducible refine aU (fun _=>?_) (fun _=>?_)|with_reducible refine bR (fun _=>?_) (fun _=>?_))
 all_goals simp_all
theorem zJo {q q':List UInt8} {k k' m m':Int} {t t':Nat} {d d':List UInt8}:
  aA Tryz.prog 325 [.agg [.p (.s q),.p (.i .i64 k),.p (.i .i64 m),.p (.f t),.p (.sl 1 (cB d))],.agg [.p (.s q'),.p (.i .i64 k'),.p (.i .i64 m'),.p (.f t'),.p (.sl 1 (cB d'))]] [] fun r h=>r=.c (.p (.i .i64 (AP q q')))∧h=[]:=by
 refine ent aB aK Tryz.func325 rfl rfl fun X0 hX=>?_
 simp only [Tryz.f325,go_sem]
 repeat' (first|simp only [*,go_sem,Nat.reduceLT,Nat.reduceEqDiff,↓reduceIte]|((with_reducible refine aS (mF) ?_ ?_ ?_);exact rfl;exact rfl))
theorem zIY {h:aC} {id:Nat} {l:List It} (hu:∀ x∈l,∀ y∈l,x.p=y.p→x=y) (hid:h[id]? = some (.arr 5 (aV l) false)) (hsz:l.length<4611686018427387904):
  aA Tryz.prog 100 [.c (.own id 0 l.length),.c (.clo 325 [])] h fun d h'=>d=.tup []∧h'=h.set id (.arr 5 (aV (pK l)) false):=by
 have:=mY (P:=Tryz.prog) (f:=100) (g:=325) 5 (by decide) cfI zAl
  (enters Tryz.func100 rfl rfl) (enters_of Tryz.func325 (by kernel_rfl) rfl)
  (fun enc hk h1 c hO blk off cap d w hcmp hH hblk hsz=>Tryz.slices_SortFunc_f100 5 Tryz.isAgg121 Tryz.sizeOf121 enc hk h1 c hO 325 #[] blk off cap d w (enters_of Tryz.func325 (by kernel_rfl) rfl) hcmp hH hblk hsz)
  (fun p cap fv w=>Tryz.slices_SortFunc_none_f100 (α:=Nat) p cap fv w)
  (h:=h) (i0:=id) (es:=aV l) (fun x hx y hy=>by
   obtain ⟨a,_,rfl⟩:=List.mem_map.1 hx
   obtain ⟨b,_,rfl⟩:=List.mem_map.1 hy
   exact zJo) (zB3 hu) hid (by rw [cU];exact hsz)
 rw [zBM,cU] at this
 exact this
theorem zJb {h:aC} {id:Nat} {l:List It} {K:DV→aC→Prop} (hu:∀ x∈l,∀ y∈l,x.p=y.p→x=y) (hsz:l.length<4611686018427387904) (hid:h[id]? = some (.arr 5 (aV l) false)) (hk:K (.tup []) (h.set id (.arr 5 (aV (pK l)) false))):
  aA Tryz.prog 100 [.c (.own id 0 l.length),.c (.clo 325 [])] h K :=
 aA.mono (zIY hu hid hsz) (by rintro _ _ ⟨rfl,rfl⟩;exact hk)
end
end Go.Proofs.YtbpblnmhlhpebaaGreatDoor
