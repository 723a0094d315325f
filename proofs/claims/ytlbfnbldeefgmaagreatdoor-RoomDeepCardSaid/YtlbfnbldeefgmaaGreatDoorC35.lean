/- Part 36 of the proof of roomDeep_card, set without needless blanks. No condition. -/
import Derived.Test.YtlbfnbldeefgmaaGreatDoorC34
import Derived.Ground.SlsfProg
import Derived.Shelf.SlSortCmp.WholeK
import Derived.Shelf.SlSortCmp.NoneTotal
set_option linter.all false
section
namespace Go.Proofs.YtlbfnbldeefgmaaGreatDoor
open Go Go.Dm Go.Proofs
set_option maxRecDepth 100000
set_option maxHeartbeats 8000000
theorem zBK {r:Rm} {s:List UInt8} {i0 p q:Int} {es:List En} (hr:OkR r) (h3:OkR ⟨bY r.N s r.x,r.L++[⟨r.x,p,q,false⟩],oJ r.E r.x es,r.x+1⟩) (hg:OkG (r.L++[⟨r.x,p,q,false⟩])):
  aA Tryz.prog 57 [.c (.ptr 0 0),.c (.p (.s s)),.agg [.p (.i .i64 i0),.p (.i .i64 p),.p (.i .i64 q),.p (.b false)],.c (.p (.sl 7 (eZ es)))] (cB r) fun d h=>d=.tup []∧h=xX (zH0 r s p q es):=by
 have hpu:=HT (r:=⟨r.N,r.L++[⟨r.x,p,q,false⟩],oJ r.E r.x es,r.x+1⟩) (s:=s) (n:=r.x) (by have:=hr.nl;simp only;omega) hr.srt;have hcl:=zF8 h3 hg;have hx:=hr.x;have hll:=hr.ll;have w1:IntKind.i64.wrap (r.x+1)=r.x+1:=wrap_i64 (by omega) (by omega);unfold zH0;generalize NN ⟨bY r.N s r.x,r.L++[⟨r.x,p,q,false⟩],oJ r.E r.x es,r.x+1⟩=c at hcl ⊢;have hlp:(r.L++[(⟨r.x,p,q,false⟩:Ly)]).length=r.L.length+1:=by simp
 generalize bY r.N s r.x=M at hpu hcl;unfold VA cB at hpu;unfold cB at hcl;simp only [hlp] at hpu hcl;refine aA.perm [0,1,2,3,8,9,10] (d1:=.tup []) (h1:=[.box [.own 8 0 c.N.length,.own 9 0 c.L.length,.mp 10,.p (.i .i64 c.x)],.dead,.dead,.dead,.box [.p (.i .i64 r.x),.p (.i .i64 p),.p (.i .i64 q),.p (.b false)],.arr 4 [[.i .i64 r.x,.i .i64 p,.i .i64 q,.b false]] false,.dead,.dead,.arr 2 (bJ c.N) false,.arr 4 (cY c.L) false,.mp (nN c.E)]) ?_ rfl rfl (by unfold xX;exact (by simp only [fQ,rI,gU,fP,lX];(repeat' (first|exact rfl|exact True.intro|refine And.intro ?_ ?_))));clear h3 hg hr;refine zCz aC aK Tryz.func57 rfl rfl fun X0 hX=>?_;simp only [Tryz.f57,go_sem]
 repeat' (first|simp only [*,go_sem,Nat.reduceLT,Nat.reduceLeDiff,Nat.reduceEqDiff,↓reduceIte,Nat.reduceAdd,Nat.reduceSub,]|((with_reducible refine aS [0,1,6,3] (hpu) ?_ ?_ ?_ ?_);exact rfl;exact rfl;(focus ((simp only [go_sem];done))))|((with_reducible refine aS [0,7,6,3] (hcl) ?_ ?_ ?_ ?_);exact rfl;exact rfl;(focus ((simp only [go_sem];done))))|((refine aO (id:=3) aC aK [6,7,10] [5,6,1,2,3,4,7,0,8,9,10] (by decide +kernel) ?_);(repeat' (first|(refine bC ?_)|((refine dB ?_ ?_ rfl rfl rfl ?_ ?_);(rotate_left 2);(focus ((repeat' (first|simp only [*,go_sem,Nat.reduceLT,Nat.reduceLeDiff,Nat.reduceEqDiff,↓reduceIte,Nat.reduceAdd,Nat.reduceMul,Nat.reduceBEq,]|((with_reducible refine And.intro ?_ ?_);((first|omega|decide)))));((refine And.intro ?_ ?_ <;> exact rfl))));(simp only [aF,bF]))|((refine dA ?_ rfl rfl rfl ?_ ?_);(rotate_left 1);(focus ((repeat' (first|exact bI|refine bA ?_ ?_));(all_goals ((repeat' (simp only [*,go_sem,Nat.reduceLT,Nat.reduceLeDiff,Nat.reduceEqDiff,↓reduceIte,Nat.reduceAdd,]));(try (exact rfl))))));(simp only [aF])))))|((refine aO (id:=4) aC aK [7] [0,1,2,3,4,5,6,7] (by decide +kernel) ?_);(repeat' (first|(refine bC ?_)|((refine dB ?_ ?_ rfl rfl rfl ?_ ?_);(rotate_left 2);(focus ((repeat' (simp only [*,go_sem,Nat.reduceEqDiff,↓reduceIte,]));((refine And.intro ?_ ?_ <;> exact rfl))));(simp only [bF]))|((refine dA ?_ rfl rfl rfl ?_ ?_);(rotate_left 1);(focus ((repeat' (first|exact bI|refine bA ?_ ?_));(all_goals ((repeat' (simp only [*,go_sem,Nat.reduceLT,Nat.reduceEqDiff,↓reduceIte,]));(try (exact rfl))))));(simp only [aF]))))))
end Go.Proofs.YtlbfnbldeefgmaaGreatDoor
end
section
namespace Go.Proofs
open Go.Shelf
def Tryz.laysSlF06_f155_ren:Go.Shelf.Ren:=⟨fun | 6=>155 | 15=>219 | 14=>218 | 28=>271 | 29=>272 | 20=>263 | 21=>264 | 22=>265 | 23=>266 | 24=>267 | 25=>268 | 26=>269 | 27=>270 | 46=>319 | 47=>320 | 48=>321 | 49=>322 | 50=>323 | 57=>372|n=>n,fun | 22=>40 | 24=>130 | 25=>218 | 3=>3 | 39=>273 | 0=>0 | 53=>301 | 55=>185 | 4=>4 | 46=>295 | 45=>294 | 50=>167 | 5=>5 | 9=>9 | 66=>332 | 70=>336 | 76=>367 | 77=>321|n=>n,fun|n=>n⟩
theorem Tryz.laysSlF06_f155:Go.Proofs.SlLaysF0.n6 Tryz.prog Tryz.laysSlF06_f155_ren:={
 mixed:=by kernel_rfl
 f6:=⟨Tryz.f155.name,by decide,Tryz.func155.trans (congrArg some (by kernel_rfl))⟩
 f14:=⟨Tryz.f218.name,by decide,Tryz.func218.trans (congrArg some (by kernel_rfl))⟩
 f15:=Tryz.func219.trans (congrArg some (by kernel_rfl))
 f20:=⟨Tryz.f263.name,by decide,Tryz.func263.trans (congrArg some (by kernel_rfl))⟩
 f21:=⟨Tryz.f264.name,by decide,Tryz.func264.trans (congrArg some (by kernel_rfl))⟩
 f22:=⟨Tryz.f265.name,by decide,Tryz.func265.trans (congrArg some (by kernel_rfl))⟩
 f23:=⟨Tryz.f266.name,by decide,Tryz.func266.trans (congrArg some (by kernel_rfl))⟩
 f24:=⟨Tryz.f267.name,by decide,Tryz.func267.trans (congrArg some (by kernel_rfl))⟩
 f25:=⟨Tryz.f268.name,by decide,Tryz.func268.trans (congrArg some (by kernel_rfl))⟩
 f26:=⟨Tryz.f269.name,by decide,Tryz.func269.trans (congrArg some (by kernel_rfl))⟩
 f27:=⟨Tryz.f270.name,by decide,Tryz.func270.trans (congrArg some (by kernel_rfl))⟩
 f28:=Tryz.func271.trans (congrArg some (by kernel_rfl))
 f29:=Tryz.func272.trans (congrArg some (by kernel_rfl))
 f46:=⟨Tryz.f319.name,by decide,Tryz.func319.trans (congrArg some (by kernel_rfl))⟩
 f47:=Tryz.func320.trans (congrArg some (by kernel_rfl))
 f48:=Tryz.func321.trans (congrArg some (by kernel_rfl))
 f49:=⟨Tryz.f322.name,by decide,Tryz.func322.trans (congrArg some (by kernel_rfl))⟩
 f50:=⟨Tryz.f323.name,by decide,Tryz.func323.trans (congrArg some (by kernel_rfl))⟩
 f57:=⟨Tryz.f372.name,by decide,Tryz.func372.trans (congrArg some (by kernel_rfl))⟩
 t0:=Tryz.underlying0
 a0:=Tryz.isAgg0
 z0:=Tryz.sizeOf0
 v0:=Tryz.zeroValue0
 t3:=Tryz.underlying3
 a3:=Tryz.isAgg3
 z3:=Tryz.sizeOf3
 v3:=Tryz.zeroValue3
 t4:=Tryz.underlying4
 a4:=Tryz.isAgg4
 z4:=Tryz.sizeOf4
 v4:=Tryz.zeroValue4
 t5:=Tryz.underlying5
 a5:=Tryz.isAgg5
 z5:=Tryz.sizeOf5
 v5:=Tryz.zeroValue5
 t9:=Tryz.underlying9
 a9:=Tryz.isAgg9
 z9:=Tryz.sizeOf9
 v9:=Tryz.zeroValue9
 t22:=Tryz.underlying40
 a22:=Tryz.isAgg40
 z22:=Tryz.sizeOf40
 v22:=Tryz.zeroValue40
 t25:=Tryz.underlying218
 a25:=Tryz.isAgg218
 z25:=Tryz.sizeOf218
 v25:=Tryz.zeroValue218
 t39:=Tryz.underlying273
 a39:=Tryz.isAgg273
 z39:=Tryz.sizeOf273
 v39:=Tryz.zeroValue273
 t45:=Tryz.underlying294
 a45:=Tryz.isAgg294
 z45:=Tryz.sizeOf294
 v45:=Tryz.zeroValue294
 t46:=Tryz.underlying295
 a46:=Tryz.isAgg295
 z46:=Tryz.sizeOf295
 v46:=Tryz.zeroValue295
 t50:=Tryz.underlying167
 a50:=Tryz.isAgg167
 z50:=Tryz.sizeOf167
 v50:=Tryz.zeroValue167
 t53:=Tryz.underlying301
 a53:=Tryz.isAgg301
 z53:=Tryz.sizeOf301
 v53:=Tryz.zeroValue301
 t55:=Tryz.underlying185
 a55:=Tryz.isAgg185
 z55:=Tryz.sizeOf185
 v55:=Tryz.zeroValue185
 t66:=Tryz.underlying332
 a66:=Tryz.isAgg332
 z66:=Tryz.sizeOf332
 v66:=Tryz.zeroValue332
 t70:=Tryz.underlying336
 a70:=Tryz.isAgg336
 z70:=Tryz.sizeOf336
 v70:=Tryz.zeroValue336
 t76:=Tryz.underlying367
 a76:=Tryz.isAgg367
 z76:=Tryz.sizeOf367
 v76:=Tryz.zeroValue367
 t77:=Tryz.underlying321
 a77:=Tryz.isAgg321
 z77:=Tryz.sizeOf321
 v77:=Tryz.zeroValue321 }
def Tryz.laysSlF06_f192_ren:Go.Shelf.Ren:=⟨fun | 6=>192 | 15=>219 | 14=>251 | 28=>271 | 29=>272 | 20=>306 | 21=>307 | 22=>308 | 23=>309 | 24=>310 | 25=>311 | 26=>312 | 27=>313 | 46=>359 | 47=>320 | 48=>321 | 49=>360 | 50=>361 | 57=>390|n=>n,fun | 22=>67 | 24=>75 | 25=>247 | 3=>3 | 39=>273 | 0=>0 | 53=>301 | 55=>185 | 4=>4 | 46=>295 | 45=>294 | 50=>167 | 5=>5 | 9=>9 | 66=>332 | 70=>336 | 76=>367 | 77=>321|n=>n,fun|n=>n⟩
theorem Tryz.laysSlF06_f192:Go.Proofs.SlLaysF0.n6 Tryz.prog Tryz.laysSlF06_f192_ren:={
 mixed:=by kernel_rfl
 f6:=⟨Tryz.f192.name,by decide,Tryz.func192.trans (congrArg some (by kernel_rfl))⟩
 f14:=⟨Tryz.f251.name,by decide,Tryz.func251.trans (congrArg some (by kernel_rfl))⟩
 f15:=Tryz.func219.trans (congrArg some (by kernel_rfl))
 f20:=⟨Tryz.f306.name,by decide,Tryz.func306.trans (congrArg some (by kernel_rfl))⟩
 f21:=⟨Tryz.f307.name,by decide,Tryz.func307.trans (congrArg some (by kernel_rfl))⟩
 f22:=⟨Tryz.f308.name,by decide,Tryz.func308.trans (congrArg some (by kernel_rfl))⟩
 f23:=⟨Tryz.f309.name,by decide,Tryz.func309.trans (congrArg some (by kernel_rfl))⟩
 f24:=⟨Tryz.f310.name,by decide,Tryz.func310.trans (congrArg some (by kernel_rfl))⟩
 f25:=⟨Tryz.f311.name,by decide,Tryz.func311.trans (congrArg some (by kernel_rfl))⟩
 f26:=⟨Tryz.f312.name,by decide,Tryz.func312.trans (congrArg some (by kernel_rfl))⟩
 f27:=⟨Tryz.f313.name,by decide,Tryz.func313.trans (congrArg some (by kernel_rfl))⟩
 f28:=Tryz.func271.trans (congrArg some (by kernel_rfl))
 f29:=Tryz.func272.trans (congrArg some (by kernel_rfl))
 f46:=⟨Tryz.f359.name,by decide,Tryz.func359.trans (congrArg some (by kernel_rfl))⟩
 f47:=Tryz.func320.trans (congrArg some (by kernel_rfl))
 f48:=Tryz.func321.trans (congrArg some (by kernel_rfl))
 f49:=⟨Tryz.f360.name,by decide,Tryz.func360.trans (congrArg some (by kernel_rfl))⟩
 f50:=⟨Tryz.f361.name,by decide,Tryz.func361.trans (congrArg some (by kernel_rfl))⟩
 f57:=⟨Tryz.f390.name,by decide,Tryz.func390.trans (congrArg some (by kernel_rfl))⟩
 t0:=Tryz.underlying0
 a0:=Tryz.isAgg0
 z0:=Tryz.sizeOf0
 v0:=Tryz.zeroValue0
 t3:=Tryz.underlying3
 a3:=Tryz.isAgg3
 z3:=Tryz.sizeOf3
 v3:=Tryz.zeroValue3
 t4:=Tryz.underlying4
 a4:=Tryz.isAgg4
 z4:=Tryz.sizeOf4
 v4:=Tryz.zeroValue4
 t5:=Tryz.underlying5
 a5:=Tryz.isAgg5
 z5:=Tryz.sizeOf5
 v5:=Tryz.zeroValue5
 t9:=Tryz.underlying9
 a9:=Tryz.isAgg9
 z9:=Tryz.sizeOf9
 v9:=Tryz.zeroValue9
 t22:=Tryz.underlying67
 a22:=Tryz.isAgg67
 z22:=Tryz.sizeOf67
 v22:=Tryz.zeroValue67
 t25:=Tryz.underlying247
 a25:=Tryz.isAgg247
 z25:=Tryz.sizeOf247
 v25:=Tryz.zeroValue247
 t39:=Tryz.underlying273
 a39:=Tryz.isAgg273
 z39:=Tryz.sizeOf273
 v39:=Tryz.zeroValue273
 t45:=Tryz.underlying294
 a45:=Tryz.isAgg294
 z45:=Tryz.sizeOf294
 v45:=Tryz.zeroValue294
 t46:=Tryz.underlying295
 a46:=Tryz.isAgg295
 z46:=Tryz.sizeOf295
 v46:=Tryz.zeroValue295
 t50:=Tryz.underlying167
 a50:=Tryz.isAgg167
 z50:=Tryz.sizeOf167
 v50:=Tryz.zeroValue167
 t53:=Tryz.underlying301
 a53:=Tryz.isAgg301
 z53:=Tryz.sizeOf301
 v53:=Tryz.zeroValue301
 t55:=Tryz.underlying185
 a55:=Tryz.isAgg185
 z55:=Tryz.sizeOf185
 v55:=Tryz.zeroValue185
 t66:=Tryz.underlying332
 a66:=Tryz.isAgg332
 z66:=Tryz.sizeOf332
 v66:=Tryz.zeroValue332
 t70:=Tryz.underlying336
 a70:=Tryz.isAgg336
 z70:=Tryz.sizeOf336
 v70:=Tryz.zeroValue336
 t76:=Tryz.underlying367
 a76:=Tryz.isAgg367
 z76:=Tryz.sizeOf367
 v76:=Tryz.zeroValue367
 t77:=Tryz.underlying321
 a77:=Tryz.isAgg321
 z77:=Tryz.sizeOf321
 v77:=Tryz.zeroValue321 }
open Go.RowKit Go.Lib Go.Sort in
theorem Tryz.slices_SortFunc_f155 {α:Type} [Inhabited α] (k:Nat) (aE:∀ w,(isAgg 130).run Tryz.prog w=.ok true w) (zE:∀ w,(Go.sizeOf 130).run Tryz.prog w=.ok k w) (enc:α→List Value) (hk:∀ x,(enc x).length=k) (h1:∀ x,∀ v∈enc x,v.oneCell'=true) (cf:α→α→Int) (hO:SWO (ltOf cf)) (g:Nat) (cb:Array Value) (blk off cap:Nat) (d:Array α) (w:World) (eg:∀ args w,(callFunc g args).run Tryz.prog w=.ok (.enter g args) w) (hcmp:CmpLays Tryz.prog g cb enc k cf blk off d.size w) (hH:HoldsK enc k w blk off d) (hblk:blk<w.heap.size) (hsz:d.size<4611686018427387904):
  Calls Tryz.prog 155 #[.slice (some ⟨blk,off,none⟩) d.size cap,.func (.func g) #[] cb] w fun e w' =>
   e=.returned (.tuple #[])∧∃ d' n os,PermIn 0 d.size d d'∧SortedIn (ltOf cf) 0 d.size d'∧w'=sortWorldK enc k w blk off n d' os:=AnyQ.slices_SortFunc Tryz.laysSlF06_f155 k aE zE enc hk h1 cf hO g cb blk off cap d w eg hcmp hH hblk hsz
open Go.RowKit Go.Lib Go.Sort in
theorem Tryz.slices_SortFunc_f192 {α:Type} [Inhabited α] (k:Nat) (aE:∀ w,(isAgg 75).run Tryz.prog w=.ok true w) (zE:∀ w,(Go.sizeOf 75).run Tryz.prog w=.ok k w) (enc:α→List Value) (hk:∀ x,(enc x).length=k) (h1:∀ x,∀ v∈enc x,v.oneCell'=true) (cf:α→α→Int) (hO:SWO (ltOf cf)) (g:Nat) (cb:Array Value) (blk off cap:Nat) (d:Array α) (w:World) (eg:∀ args w,(callFunc g args).run Tryz.prog w=.ok (.enter g args) w) (hcmp:CmpLays Tryz.prog g cb enc k cf blk off d.size w) (hH:HoldsK enc k w blk off d) (hblk:blk<w.heap.size) (hsz:d.size<4611686018427387904):
  Calls Tryz.prog 192 #[.slice (some ⟨blk,off,none⟩) d.size cap,.func (.func g) #[] cb] w fun e w' =>
   e=.returned (.tuple #[])∧∃ d' n os,PermIn 0 d.size d d'∧SortedIn (ltOf cf) 0 d.size d'∧w'=sortWorldK enc k w blk off n d' os:=AnyQ.slices_SortFunc Tryz.laysSlF06_f192 k aE zE enc hk h1 cf hO g cb blk off cap d w eg hcmp hH hblk hsz
open Go.RowKit Go.Lib Go.Sort in
theorem Tryz.slices_SortFunc_none_f155 {α:Type} [Inhabited α] (p:Option Addr) (cap:Nat) (fv:Value) (w:World):
  Calls Tryz.prog 155 #[.slice p 0 cap,fv] w fun e w'=>e=.returned (.tuple #[])∧w'=w:=AnyF.slices_SortFunc_none Tryz.laysSlF06_f155 p cap fv w
open Go.RowKit Go.Lib Go.Sort in
theorem Tryz.slices_SortFunc_none_f192 {α:Type} [Inhabited α] (p:Option Addr) (cap:Nat) (fv:Value) (w:World):
  Calls Tryz.prog 192 #[.slice p 0 cap,fv] w fun e w'=>e=.returned (.tuple #[])∧w'=w:=AnyF.slices_SortFunc_none Tryz.laysSlF06_f192 p cap fv w
end Go.Proofs
end
section
namespace Go.Proofs.YtlbfnbldeefgmaaGreatDoor
open Go Go.Dm Go.Proofs
set_option maxRecDepth 100000
set_option maxHeartbeats 8000000
theorem FX {t:List It} {p:List UInt8} {i:Nat} (hs:Srt t) (h:AR t p i):fF t p i=(aW t p).isSome:=by
 cases hf:fF t p i
 ·rw [KY hs h hf];rfl
 ·unfold fF at hf;cases hx:t[i]? with
  | none=>rw [hx] at hf;cases hf
  | some x=>rw [hx] at hf;rw [BQ hs hx hf];rfl
def zEf (t:List It) (a b:List UInt8):Int :=
 if a == [] || b == [] || !cJ a || !cJ b then 1 else if !(aW t a).isSome then 6 else if aM a b then 18 else if (aW t b).isSome then 7 else if !aU t (aP b) then 9 else 0
theorem zA1 {t:List It} {a b:List UInt8} (ht:t.length≤1000000) (hs:Srt t) (ha:a.length≤1000000000) (hb:b.length≤1000000000):
  aA Tryz.prog 295 [.c (.p (.sl 5 (aZ t))),.c (.p (.s a)),.c (.p (.s b))] [] fun r h=>r=.c (.p (.i .i64 (zEf t a b)))∧h=[]:=by
 have hdir:=eG (t:=t) (p:=aP b) ht hs;have hpa:=fA ha;have hpb:=fA hb;unfold zEf;generalize cJ a=pa at *;generalize cJ b=pb at *;generalize aU t (aP b)=db at *;refine ent aC aK Tryz.func295 rfl rfl fun X0 hX=>?_;simp only [Tryz.f295,go_sem]
 repeat' (simp only [*,go_sem,Nat.reduceLT,Nat.reduceEqDiff,↓reduceIte,Nat.reduceAdd,])
 refine zCb (FU ht hs) rfl (fun _ _=>rfl) fun i hi=>?_;unfold kL;rw [FX hs hi];generalize (aW t a).isSome=ga
 repeat' (simp only [*,go_sem,Nat.reduceLT,Nat.reduceEqDiff,↓reduceIte,])
 refine zCb (FU ht hs) rfl (fun _ _=>rfl) fun j hj=>?_;unfold kL;rw [FX hs hj];generalize (aW t b).isSome=gb;cases pa <;> cases pb <;> cases ga <;> cases gb <;> cases db
 all_goals repeat' (first|simp only [*,go_sem,Nat.reduceLT,Nat.reduceEqDiff,↓reduceIte,Bool.not_true,Bool.not_false]|((with_reducible refine aQ (hpa) ?_ ?_ ?_);exact rfl;exact rfl)|((with_reducible refine aQ (hpb) ?_ ?_ ?_);exact rfl;exact rfl)|((with_reducible refine aQ (cE ha) ?_ ?_ ?_);exact rfl;exact rfl)|((with_reducible refine aQ (dQ hb) ?_ ?_ ?_);exact rfl;exact rfl)|((with_reducible refine aQ (hdir) ?_ ?_ ?_);exact rfl;exact rfl)|with_reducible refine aR (fun _=>?_) (fun _=>?_)|with_reducible refine cL (fun _=>?_) (fun _=>?_))
 all_goals simp_all
theorem zG0 {q q':List UInt8} {k k' m m':Int} {t t':Nat} {d d':List UInt8}:
  aA Tryz.prog 296 [.agg [.p (.s q),.p (.i .i64 k),.p (.i .i64 m),.p (.f t),.p (.sl 1 (bW d))],.agg [.p (.s q'),.p (.i .i64 k'),.p (.i .i64 m'),.p (.f t'),.p (.sl 1 (bW d'))]] [] fun r h=>r=.c (.p (.i .i64 (NP q q')))∧h=[]:=by
 refine ent aC aK Tryz.func296 rfl rfl fun X0 hX=>?_;simp only [Tryz.f296,go_sem]
 repeat' (first|simp only [*,go_sem,Nat.reduceLT,Nat.reduceEqDiff,↓reduceIte,]|((with_reducible refine aQ (qK) ?_ ?_ ?_);exact rfl;exact rfl))
theorem zHn {h:aB} {id:Nat} {l:List It} (hu:∀ x∈l,∀ y∈l,x.p=y.p→x=y) (hid:h[id]? = some (.arr 5 (aZ l) false)) (hsz:l.length<4611686018427387904):
  aA Tryz.prog 155 [.c (.own id 0 l.length),.c (.clo 296 [])] h fun d h'=>d=.tup []∧h'=h.set id (.arr 5 (aZ (oN l)) false):=by
 have:=sA (P:=Tryz.prog) (f:=155) (g:=296) 5 (by decide) cfI zB1
  (enters Tryz.func155 rfl rfl) (enters_of Tryz.func296 (by kernel_rfl) rfl)
  (fun enc hk h1 c hO blk off cap d w hcmp hH hblk hsz=>Tryz.slices_SortFunc_f155 5 Tryz.isAgg130 Tryz.sizeOf130 enc hk h1 c hO 296 #[] blk off cap d w (enters_of Tryz.func296 (by kernel_rfl) rfl) hcmp hH hblk hsz)
  (fun p cap fv w=>Tryz.slices_SortFunc_none_f155 (α:=Nat) p cap fv w)
  (h:=h) (i0:=id) (es:=aZ l) (fun x hx y hy=>by
   obtain ⟨a,_,rfl⟩:=List.mem_map.1 hx;obtain ⟨b,_,rfl⟩:=List.mem_map.1 hy;exact zG0) (XA hu) hid (by rw [cS];exact hsz)
 rw [ZX,cS] at this;exact this
theorem zHo {h:aB} {id:Nat} {l:List It} {K:DV→aB→Prop} (hu:∀ x∈l,∀ y∈l,x.p=y.p→x=y) (hsz:l.length<4611686018427387904) (hid:h[id]? = some (.arr 5 (aZ l) false)) (hk:K (.tup []) (h.set id (.arr 5 (aZ (oN l)) false))):
  aA Tryz.prog 155 [.c (.own id 0 l.length),.c (.clo 296 [])] h K :=
 aA.mono (zHn hu hid hsz) (by rintro _ _ ⟨rfl,rfl⟩;exact hk)
end Go.Proofs.YtlbfnbldeefgmaaGreatDoor
end
section
namespace Go.Dm
open Go Go.Sort Go.Proofs
def CA (t w:List It) (p:List UInt8):Bool:=t.any fun y=>aM p y.p && (aW w y.p).isSome
def mJ (t w:List It) (p:List UInt8):Bool:=aU w p && (aU t p && (!decide (((gA t p).length:Int)<2) && !CA t w p))
theorem SN (t w:List It) (p:List UInt8):CA t w p=JJ t w p:=by
 unfold CA JJ
 congr 1
 funext y
 rw [Bool.and_comm]
theorem zIx {t w:List It} {x:It} (hx:x∈w) (h:zBe t w x=true):isB (iI t w) x.p=true :=
 List.any_eq_true.2 ⟨x.p,List.mem_map.2 ⟨x,List.mem_filter.2 ⟨hx,h⟩,rfl⟩,beq_self_eq_true _⟩
theorem zA {t w:List It} (hw:OkT w) {x:It} (hx:x∈w):((x.n.k == 2) && mJ t w x.p)=isB (iI t w) x.p:=by
 have h0:(x.p == [])=false:=by simpa using hw.ne x hx
 have h1:aU w x.p=(x.n.k == 2):=by
  unfold aU;rw [cP hw.srt hx,h0,Bool.false_or]
 have h2:((x.n.k == 2) && mJ t w x.p)=zBe t w x:=by
  unfold mJ zBe zAv;rw [h1,h0,SN];cases x.n.k == 2 <;> cases aU t x.p <;> simp
 rw [h2];cases hb:isB (iI t w) x.p
 ·cases ho:zBe t w x
  ·rfl
  ·rw [zIx hx ho] at hb;cases hb
 ·exact CN hw hx hb
def zJR (t w:List It) (q:List UInt8):Bool:=!(aW w q).isSome || (!aU w q || mJ t w q)
theorem zIt {t w:List It} (hw:OkT w) {q:List UInt8} (hq:q≠[]):zJR t w q=(!(aW w q).isSome || (((aW w q).getD nd0).k != 2 || isB (iI t w) q)):=by
 have h0:(q == [])=false:=by simpa using hq
 unfold zJR;cases hg:aW w q with
 | none=>rfl
 | some n =>
  obtain ⟨x,hx,rfl,rfl⟩:=cD hg;have h1:aU w x.p=(x.n.k == 2):=by
   unfold aU;rw [hg,h0,Bool.false_or]
  have h2:=zA (t:=t) hw hx;rw [h1,Option.isSome_some,Option.getD_some,← h2];cases hk:x.n.k == 2 <;> simp [bne,hk]
def PH (t w:List It):List En:=(t.filter fun y=>!(aW w y.p).isSome && !DO w (iI t w) y.p).map fun y=>jH y.p
def kS (t w:List It):List En:=gO t (iI t w) w++PH t w
theorem vU {t w:List It} (ht:OkT t) (hw:OkT w) (e:En):e∈fR t w↔e∈kS t w:=by
 rw [(kT ht hw).2 e];unfold kS PH;rw [List.mem_append,List.mem_map];constructor
 ·rintro (h|⟨y,hy,rfl,h1,h2⟩)
  ·exact .inl h
  ·exact .inr ⟨y,List.mem_filter.2 ⟨hy,by rw [h1,h2];rfl⟩,rfl⟩
 ·rintro (h|⟨y,hy,rfl⟩)
  ·exact .inl h
  ·obtain ⟨h1,h2⟩:=List.mem_filter.1 hy;simp only [Bool.and_eq_true,Bool.not_eq_true'] at h2;exact .inr ⟨y,h1,rfl,h2.1,h2.2⟩
theorem rT {l:List En} (h:QL l):l.Nodup:=h.imp fun {a b} h e=>by subst e;rw [cR] at h;cases h
theorem LQ {t w:List It} (ht:OkT t) (hw:OkT w):(kS t w).Nodup:=by
 unfold kS;refine List.nodup_append.2 ⟨rT (HJ hw.srt),?_,fun a ha b hb e=>?_⟩
 ·have:(PH t w).Pairwise fun x y=>bZ x.p y.p=true:=List.pairwise_map.2 ((ht.srt.filter _).imp fun h=>h);exact rT this
 ·obtain ⟨x,hx,rfl⟩:=iL ha;obtain ⟨y,_,rfl⟩:=List.mem_map.1 hb;injection e with _ h _ _;cases h
def leE (x y:En):Bool:=!bZ y.p x.p
def xA (l:List En):List En:=l.mergeSort leE
theorem nL (l:List En):(xA l).Perm l:=List.mergeSort_perm _ _
theorem zBW (l:List En):(xA l).length=l.length:=List.length_mergeSort ..
theorem JF (l:List En):(xA l).Pairwise fun x y=>bZ y.p x.p=false:=by
 have h:(xA l).Pairwise fun x y=>leE x y=true:=by
  refine List.pairwise_mergeSort (le:=leE) ?_ ?_ _
  ·intro a b c h1 h2;simp only [leE,Bool.not_eq_true'] at h1 h2 ⊢;cases e:bZ c.p a.p with
   | false=>rfl
   | true =>
    cases f:bZ a.p b.p with
    | true=>have:=cO e f;rw [h2] at this;cases this
    | false=>have:=fM f h1;rw [← this,e] at h2;cases h2
  ·intro a b;simp only [leE];cases h:bZ b.p a.p with
   | false=>simp
   | true=>simp [gJ h]
 exact h.imp fun h=>by unfold leE at h;simpa using h
theorem WZ {l:List En} (hu:∀ x∈l,∀ y∈l,x.p=y.p→x=y):∀ x∈eZ l,∀ y∈eZ l,ltOf cfI x y=false→ltOf cfI y x=false→x=y:=by
 rw [GR];intro x hx y hy h k;obtain ⟨a,ha,rfl⟩:=List.mem_map.1 hx;obtain ⟨b,hb,rfl⟩:=List.mem_map.1 hy;rw [hu a ha b hb (fM h k)]
theorem YV (l:List En):(eZ l).mergeSort (PM (ltOf cfI))=eZ (xA l):=by
 rw [GR];unfold eZ xA;exact (List.map_mergeSort (r:=leE) (s:=PM zIE) (f:=En.cs) (l:=l) fun a _ b _=>rfl).symm
theorem GS {t w:List It} (ht:OkT t) (hw:OkT w):∀ x∈kS t w,∀ y∈kS t w,x.p=y.p→x=y :=
 fun x hx y hy e=>DH (kT ht hw).1 x ((vU ht hw x).2 hx) y ((vU ht hw y).2 hy) e
theorem zA0 {t w:List It} (ht:OkT t) (hw:OkT w):xA (kS t w)=fR t w:=by
 obtain ⟨hs,_⟩:=kT ht hw;have hinj:=GS ht hw;have hnd:(xA (kS t w)).Nodup:=(nL _).nodup_iff.2 (LQ ht hw);have hstrict:(xA (kS t w)).Pairwise fun x y=>bZ x.p y.p=true:=by
  refine ((JF (kS t w)).and hnd).imp_of_mem fun {a b} ha hb h=>?_;obtain ⟨h1,h2⟩:=h;cases h3:bZ a.p b.p
  ·exact absurd (hinj a ((nL _).mem_iff.1 ha) b ((nL _).mem_iff.1 hb) (fM h3 h1)) h2
  ·rfl
 exact List.Perm.eq_of_pairwise (le:=fun (x y:En)=>bZ x.p y.p=true) (fun _ _ _ _ h k=>by rw [gJ h] at k;cases k) hstrict hs
  ((List.perm_ext_iff_of_nodup hnd (rT hs)).2 fun e=>(nL _).mem_iff.trans (vU ht hw e).symm)
end Go.Dm
end
