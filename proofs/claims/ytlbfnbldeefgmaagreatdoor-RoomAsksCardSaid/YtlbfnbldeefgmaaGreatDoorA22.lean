/- Part 23 of the proof of roomAsks_card, set without needless blanks. No condition. -/
import Derived.Shelf.Small.Bits
import Derived.Shelf.Small.Wraps
import Derived.Shelf.Strconv.Itoa0
import Derived.Shelf.Strings.Search1
import Derived.Shelf.Strings.Search2
import Derived.Shelf.Strings.Search3
import Derived.Shelf.Strings.Count
import Derived.Shelf.LaysM
import Derived.Shelf.Strings.Shaped
import Derived.Shelf.Sort.Plain
import Derived.Shelf.Strings.LastIndex
import Derived.Shelf.Strings.Prefix
import Derived.Shelf.Strings.Split
import Derived.Shelf.Strings.SplitShaped
import Derived.Shelf.Unicode.DecodeSlow
import Derived.Shelf.Slices.Reverse
import Derived.Shelf.Slices.CompactS
import Derived.Ground.Names2Prog
import Derived.Shelf.Slices.SearchI
import Derived.Shelf.Slices.Cells
import Derived.Shelf.Slices.In.SortNone
import Derived.Shelf.Bytes.SlIndexAt
import Derived.Shelf.Bytes.Small
import Derived.Shelf.Bytes.IndexByte
import Derived.Test.YtlbfnbldeefgmaaGreatDoorA21
import Derived.Test.YtlbfnbldeefgmaaGreatDoorA10
set_option linter.all false
section
namespace Go.Proofs
open Go.Shelf
def Tryz.lays106_ren:Go.Shelf.Ren:=⟨fun | 106=>157 | 213=>220 | 265=>273|n=>n,fun | 9=>9 | 3=>3|n=>n,fun|n=>n⟩
theorem Tryz.lays106:Go.Proofs.Lays.n106 Tryz.prog Tryz.lays106_ren:={
 mixed:=by kernel_rfl
 f106:=Tryz.func157.trans (congrArg some (by kernel_rfl))
 f213:=Tryz.func220.trans (congrArg some (by kernel_rfl))
 f265:=Tryz.func273.trans (congrArg some (by kernel_rfl))
 t3:=Tryz.underlying3
 a3:=Tryz.isAgg3
 z3:=Tryz.sizeOf3
 v3:=Tryz.zeroValue3
 t9:=Tryz.underlying9
 a9:=Tryz.isAgg9
 z9:=Tryz.sizeOf9
 v9:=Tryz.zeroValue9 }
open Go.RowKit in
theorem Tryz.strings_Compare (a b:ByteArray) (w:World):
  Calls Tryz.prog 157 #[.string a,.string b] w fun e w'=>e=.returned (.int .i64 (Lib.compareBytes a.data.toList b.data.toList))∧w'=w:=Any.strings_Compare Tryz.lays106 a b w
def Tryz.lays137_ren:Go.Shelf.Ren:=⟨fun | 137=>196 | 217=>252 | 266=>314|n=>n,fun | 9=>9 | 5=>5 | 3=>3|n=>n,fun|n=>n⟩
theorem Tryz.lays137:Go.Proofs.Lays.n137 Tryz.prog Tryz.lays137_ren:={
 mixed:=by kernel_rfl
 f137:=Tryz.func196.trans (congrArg some (by kernel_rfl))
 f217:=Tryz.func252.trans (congrArg some (by kernel_rfl))
 f266:=Tryz.func314.trans (congrArg some (by kernel_rfl))
 t3:=Tryz.underlying3
 a3:=Tryz.isAgg3
 z3:=Tryz.sizeOf3
 v3:=Tryz.zeroValue3
 t5:=Tryz.underlying5
 a5:=Tryz.isAgg5
 z5:=Tryz.sizeOf5
 v5:=Tryz.zeroValue5
 t9:=Tryz.underlying9
 a9:=Tryz.isAgg9
 z9:=Tryz.sizeOf9
 v9:=Tryz.zeroValue9 }
open Go.RowKit in
theorem Tryz.strings_IndexByte (s:ByteArray) (c:Int) (w:World):
  Calls Tryz.prog 196 #[.string s,.int .u8 c] w fun e w'=>e=.returned (.int .i64 (Lib.indexByte s.data.toList c.toNat.toUInt8))∧w'=w:=Any.strings_IndexByte Tryz.lays137 s c w
def Tryz.lays189_ren:Go.Shelf.Ren:=⟨fun | 189=>260 | 125=>219 | 257=>318 | 128=>271 | 129=>272 | 294=>363 | 295=>364 | 296=>365 | 297=>366 | 298=>367 | 299=>368 | 216=>369 | 300=>370 | 301=>371 | 328=>391 | 329=>320 | 330=>321 | 331=>392 | 332=>393 | 215=>357 | 343=>408|n=>n,fun | 28=>81 | 3=>3 | 46=>273 | 0=>0 | 51=>301 | 53=>185 | 4=>4 | 183=>295 | 182=>294 | 131=>167 | 5=>5 | 9=>9 | 218=>332 | 222=>336 | 228=>367 | 229=>321|n=>n,fun|n=>n⟩
theorem Tryz.lays189:Go.Proofs.Lays.n189 Tryz.prog Tryz.lays189_ren:={
 mixed:=by kernel_rfl
 f125:=Tryz.func219.trans (congrArg some (by kernel_rfl))
 f128:=Tryz.func271.trans (congrArg some (by kernel_rfl))
 f129:=Tryz.func272.trans (congrArg some (by kernel_rfl))
 f189:=Tryz.func260.trans (congrArg some (by kernel_rfl))
 f215:=Tryz.func357.trans (congrArg some (by kernel_rfl))
 f216:=Tryz.func369.trans (congrArg some (by kernel_rfl))
 f257:=Tryz.func318.trans (congrArg some (by kernel_rfl))
 f294:=Tryz.func363.trans (congrArg some (by kernel_rfl))
 f295:=Tryz.func364.trans (congrArg some (by kernel_rfl))
 f296:=Tryz.func365.trans (congrArg some (by kernel_rfl))
 f297:=Tryz.func366.trans (congrArg some (by kernel_rfl))
 f298:=Tryz.func367.trans (congrArg some (by kernel_rfl))
 f299:=Tryz.func368.trans (congrArg some (by kernel_rfl))
 f300:=Tryz.func370.trans (congrArg some (by kernel_rfl))
 f301:=Tryz.func371.trans (congrArg some (by kernel_rfl))
 f328:=Tryz.func391.trans (congrArg some (by kernel_rfl))
 f329:=Tryz.func320.trans (congrArg some (by kernel_rfl))
 f330:=Tryz.func321.trans (congrArg some (by kernel_rfl))
 f331:=Tryz.func392.trans (congrArg some (by kernel_rfl))
 f332:=Tryz.func393.trans (congrArg some (by kernel_rfl))
 f343:=Tryz.func408.trans (congrArg some (by kernel_rfl))
 t0:=Tryz.underlying0
 a0:=Tryz.isAgg0
 z0:=Tryz.sizeOf0
 v0:=Tryz.zeroValue0
 t3:=Tryz.underlying3
 a3:=Tryz.isAgg3
 z3:=Tryz.sizeOf3
 v3:=Tryz.zeroValue3
 t4:=Tryz.underlying4
 a4:=Tryz.isAgg4
 z4:=Tryz.sizeOf4
 v4:=Tryz.zeroValue4
 t5:=Tryz.underlying5
 a5:=Tryz.isAgg5
 z5:=Tryz.sizeOf5
 v5:=Tryz.zeroValue5
 t9:=Tryz.underlying9
 a9:=Tryz.isAgg9
 z9:=Tryz.sizeOf9
 v9:=Tryz.zeroValue9
 t28:=Tryz.underlying81
 a28:=Tryz.isAgg81
 z28:=Tryz.sizeOf81
 v28:=Tryz.zeroValue81
 t46:=Tryz.underlying273
 a46:=Tryz.isAgg273
 z46:=Tryz.sizeOf273
 v46:=Tryz.zeroValue273
 t51:=Tryz.underlying301
 a51:=Tryz.isAgg301
 z51:=Tryz.sizeOf301
 v51:=Tryz.zeroValue301
 t53:=Tryz.underlying185
 a53:=Tryz.isAgg185
 z53:=Tryz.sizeOf185
 v53:=Tryz.zeroValue185
 t131:=Tryz.underlying167
 a131:=Tryz.isAgg167
 z131:=Tryz.sizeOf167
 v131:=Tryz.zeroValue167
 t182:=Tryz.underlying294
 a182:=Tryz.isAgg294
 z182:=Tryz.sizeOf294
 v182:=Tryz.zeroValue294
 t183:=Tryz.underlying295
 a183:=Tryz.isAgg295
 z183:=Tryz.sizeOf295
 v183:=Tryz.zeroValue295
 t218:=Tryz.underlying332
 a218:=Tryz.isAgg332
 z218:=Tryz.sizeOf332
 v218:=Tryz.zeroValue332
 t222:=Tryz.underlying336
 a222:=Tryz.isAgg336
 z222:=Tryz.sizeOf336
 v222:=Tryz.zeroValue336
 t228:=Tryz.underlying367
 a228:=Tryz.isAgg367
 z228:=Tryz.sizeOf367
 v228:=Tryz.zeroValue367
 t229:=Tryz.underlying321
 a229:=Tryz.isAgg321
 z229:=Tryz.sizeOf321
 v229:=Tryz.zeroValue321 }
open Go.Sort Go.RowKit in
theorem Tryz.slices_Sort_int (blk off cap:Nat) (zs:List Int) (w:World) (hH:Holds (Value.int .i64) w blk off zs.toArray) (hblk:blk<w.heap.size) (hsz:zs.length<4611686018427387904):
  Calls Tryz.prog 260 #[.slice (some ⟨blk,off,none⟩) zs.length cap] w fun e w' =>
   e=.returned (.tuple #[])∧∃ n os,w'=grow (putRow (Value.int .i64) (Sort.ahead w n) blk off (zs.mergeSort fun x y=>decide (x≤y)).toArray) os:=Any.slices_Sort_int Tryz.lays189 blk off cap zs w hH hblk hsz
def Tryz.lays190_ren:Go.Shelf.Ren:=⟨fun | 190=>228 | 125=>219 | 258=>277 | 128=>271 | 129=>272 | 302=>325 | 303=>326 | 304=>327 | 305=>328 | 306=>329 | 307=>330 | 308=>331 | 309=>332 | 310=>333 | 333=>373 | 329=>320 | 330=>321 | 334=>374 | 335=>375 | 336=>376 | 344=>394|n=>n,fun | 31=>31 | 9=>9 | 3=>3 | 46=>273 | 0=>0 | 51=>301 | 53=>185 | 4=>4 | 183=>295 | 182=>294 | 131=>167 | 5=>5 | 218=>332 | 222=>336 | 228=>367 | 229=>321|n=>n,fun|n=>n⟩
theorem Tryz.lays190:Go.Proofs.Lays.n190 Tryz.prog Tryz.lays190_ren:={
 mixed:=by kernel_rfl
 f125:=Tryz.func219.trans (congrArg some (by kernel_rfl))
 f128:=Tryz.func271.trans (congrArg some (by kernel_rfl))
 f129:=Tryz.func272.trans (congrArg some (by kernel_rfl))
 f190:=Tryz.func228.trans (congrArg some (by kernel_rfl))
 f258:=Tryz.func277.trans (congrArg some (by kernel_rfl))
 f302:=Tryz.func325.trans (congrArg some (by kernel_rfl))
 f303:=Tryz.func326.trans (congrArg some (by kernel_rfl))
 f304:=Tryz.func327.trans (congrArg some (by kernel_rfl))
 f305:=Tryz.func328.trans (congrArg some (by kernel_rfl))
 f306:=Tryz.func329.trans (congrArg some (by kernel_rfl))
 f307:=Tryz.func330.trans (congrArg some (by kernel_rfl))
 f308:=Tryz.func331.trans (congrArg some (by kernel_rfl))
 f309:=Tryz.func332.trans (congrArg some (by kernel_rfl))
 f310:=Tryz.func333.trans (congrArg some (by kernel_rfl))
 f329:=Tryz.func320.trans (congrArg some (by kernel_rfl))
 f330:=Tryz.func321.trans (congrArg some (by kernel_rfl))
 f333:=Tryz.func373.trans (congrArg some (by kernel_rfl))
 f334:=Tryz.func374.trans (congrArg some (by kernel_rfl))
 f335:=Tryz.func375.trans (congrArg some (by kernel_rfl))
 f336:=Tryz.func376.trans (congrArg some (by kernel_rfl))
 f344:=Tryz.func394.trans (congrArg some (by kernel_rfl))
 t0:=Tryz.underlying0
 a0:=Tryz.isAgg0
 z0:=Tryz.sizeOf0
 v0:=Tryz.zeroValue0
 t3:=Tryz.underlying3
 a3:=Tryz.isAgg3
 z3:=Tryz.sizeOf3
 v3:=Tryz.zeroValue3
 t4:=Tryz.underlying4
 a4:=Tryz.isAgg4
 z4:=Tryz.sizeOf4
 v4:=Tryz.zeroValue4
 t5:=Tryz.underlying5
 a5:=Tryz.isAgg5
 z5:=Tryz.sizeOf5
 v5:=Tryz.zeroValue5
 t9:=Tryz.underlying9
 a9:=Tryz.isAgg9
 z9:=Tryz.sizeOf9
 v9:=Tryz.zeroValue9
 t31:=Tryz.underlying31
 a31:=Tryz.isAgg31
 z31:=Tryz.sizeOf31
 v31:=Tryz.zeroValue31
 t46:=Tryz.underlying273
 a46:=Tryz.isAgg273
 z46:=Tryz.sizeOf273
 v46:=Tryz.zeroValue273
 t51:=Tryz.underlying301
 a51:=Tryz.isAgg301
 z51:=Tryz.sizeOf301
 v51:=Tryz.zeroValue301
 t53:=Tryz.underlying185
 a53:=Tryz.isAgg185
 z53:=Tryz.sizeOf185
 v53:=Tryz.zeroValue185
 t131:=Tryz.underlying167
 a131:=Tryz.isAgg167
 z131:=Tryz.sizeOf167
 v131:=Tryz.zeroValue167
 t182:=Tryz.underlying294
 a182:=Tryz.isAgg294
 z182:=Tryz.sizeOf294
 v182:=Tryz.zeroValue294
 t183:=Tryz.underlying295
 a183:=Tryz.isAgg295
 z183:=Tryz.sizeOf295
 v183:=Tryz.zeroValue295
 t218:=Tryz.underlying332
 a218:=Tryz.isAgg332
 z218:=Tryz.sizeOf332
 v218:=Tryz.zeroValue332
 t222:=Tryz.underlying336
 a222:=Tryz.isAgg336
 z222:=Tryz.sizeOf336
 v222:=Tryz.zeroValue336
 t228:=Tryz.underlying367
 a228:=Tryz.isAgg367
 z228:=Tryz.sizeOf367
 v228:=Tryz.zeroValue367
 t229:=Tryz.underlying321
 a229:=Tryz.isAgg321
 z229:=Tryz.sizeOf321
 v229:=Tryz.zeroValue321 }
open Go.Sort Go.RowKit in
theorem Tryz.slices_Sort_string (blk off cap:Nat) (ss:List (List UInt8)) (w:World) (hH:Holds encStr w blk off ss.toArray) (hblk:blk<w.heap.size) (hsz:ss.length<4611686018427387904):
  Calls Tryz.prog 228 #[.slice (some ⟨blk,off,none⟩) ss.length cap] w fun e w' =>
   e=.returned (.tuple #[])∧∃ n os,w'=grow (putRow encStr (Sort.ahead w n) blk off (ss.mergeSort fun x y=>decide (x≤y)).toArray) os:=Any.slices_Sort_string Tryz.lays190 blk off cap ss w hH hblk hsz
def Tryz.lays149_ren:Go.Shelf.Ren:=⟨fun | 149=>234 | 222=>287|n=>n,fun | 9=>9 | 5=>5 | 3=>3 | 4=>4|n=>n,fun|n=>n⟩
theorem Tryz.lays149:Go.Proofs.Lays.n149 Tryz.prog Tryz.lays149_ren:={
 mixed:=by kernel_rfl
 f149:=Tryz.func234.trans (congrArg some (by kernel_rfl))
 f222:=Tryz.func287.trans (congrArg some (by kernel_rfl))
 t3:=Tryz.underlying3
 a3:=Tryz.isAgg3
 z3:=Tryz.sizeOf3
 v3:=Tryz.zeroValue3
 t4:=Tryz.underlying4
 a4:=Tryz.isAgg4
 z4:=Tryz.sizeOf4
 v4:=Tryz.zeroValue4
 t5:=Tryz.underlying5
 a5:=Tryz.isAgg5
 z5:=Tryz.sizeOf5
 v5:=Tryz.zeroValue5
 t9:=Tryz.underlying9
 a9:=Tryz.isAgg9
 z9:=Tryz.sizeOf9
 v9:=Tryz.zeroValue9 }
open Go.RowKit Go.Lib in
theorem Tryz.strings_LastIndexByte (s:ByteArray) (c:Int) (hs:s.size<4611686018427387904) (w:World):
  Calls Tryz.prog 234 #[.string s,.int .u8 c] w fun e w'=>e=.returned (.int .i64 (Lib.lastIndexByte s c))∧w'=w:=Any.strings_LastIndexByte Tryz.lays149 s c hs w
def Tryz.lays99_ren:Go.Shelf.Ren:=⟨fun | 99=>294 | 206=>354|n=>n,fun | 9=>9 | 4=>4 | 3=>3|n=>n,fun|n=>n⟩
theorem Tryz.lays99:Go.Proofs.Lays.n99 Tryz.prog Tryz.lays99_ren:={
 mixed:=by kernel_rfl
 f99:=Tryz.func294.trans (congrArg some (by kernel_rfl))
 f206:=Tryz.func354.trans (congrArg some (by kernel_rfl))
 t3:=Tryz.underlying3
 a3:=Tryz.isAgg3
 z3:=Tryz.sizeOf3
 v3:=Tryz.zeroValue3
 t4:=Tryz.underlying4
 a4:=Tryz.isAgg4
 z4:=Tryz.sizeOf4
 v4:=Tryz.zeroValue4
 t9:=Tryz.underlying9
 a9:=Tryz.isAgg9
 z9:=Tryz.sizeOf9
 v9:=Tryz.zeroValue9 }
open Go.RowKit Go.Lib in
theorem Tryz.strings_HasPrefix (s p:ByteArray) (w:World):
  Calls Tryz.prog 294 #[.string s,.string p] w fun e w'=>e=.returned (.bool (Lib.hasPrefix s.data.toList p.data.toList))∧w'=w:=Any.strings_HasPrefix Tryz.lays99 s p w
def Tryz.lays146_ren:Go.Shelf.Ren:=⟨fun | 146=>233 | 221=>286 | 268=>350 | 138=>351 | 143=>352 | 195=>386 | 197=>387 | 218=>388 | 219=>389 | 260=>404 | 217=>252 | 225=>405 | 224=>406 | 267=>407 | 266=>314 | 314=>413|n=>n,fun | 9=>9 | 31=>31 | 3=>3 | 4=>4 | 0=>0 | 105=>376 | 21=>21 | 5=>5 | 46=>273 | 119=>391 | 139=>394 | 138=>393 | 146=>395 | 51=>301|n=>n,fun | 1=>3 | 3=>4 | 4=>5|n=>n⟩
theorem Tryz.lays146:Go.Proofs.Lays.n146 Tryz.prog Tryz.lays146_ren:={
 mixed:=by kernel_rfl
 f138:=Tryz.func351.trans (congrArg some (by kernel_rfl))
 f143:=Tryz.func352.trans (congrArg some (by kernel_rfl))
 f146:=Tryz.func233.trans (congrArg some (by kernel_rfl))
 f195:=Tryz.func386.trans (congrArg some (by kernel_rfl))
 f197:=Tryz.func387.trans (congrArg some (by kernel_rfl))
 f217:=Tryz.func252.trans (congrArg some (by kernel_rfl))
 f218:=Tryz.func388.trans (congrArg some (by kernel_rfl))
 f219:=Tryz.func389.trans (congrArg some (by kernel_rfl))
 f221:=Tryz.func286.trans (congrArg some (by kernel_rfl))
 f224:=Tryz.func406.trans (congrArg some (by kernel_rfl))
 f225:=Tryz.func405.trans (congrArg some (by kernel_rfl))
 f260:=Tryz.func404.trans (congrArg some (by kernel_rfl))
 f266:=Tryz.func314.trans (congrArg some (by kernel_rfl))
 f267:=Tryz.func407.trans (congrArg some (by kernel_rfl))
 f268:=Tryz.func350.trans (congrArg some (by kernel_rfl))
 f314:=Tryz.func413.trans (congrArg some (by kernel_rfl))
 t0:=Tryz.underlying0
 a0:=Tryz.isAgg0
 z0:=Tryz.sizeOf0
 v0:=Tryz.zeroValue0
 t3:=Tryz.underlying3
 a3:=Tryz.isAgg3
 z3:=Tryz.sizeOf3
 v3:=Tryz.zeroValue3
 t4:=Tryz.underlying4
 a4:=Tryz.isAgg4
 z4:=Tryz.sizeOf4
 v4:=Tryz.zeroValue4
 t5:=Tryz.underlying5
 a5:=Tryz.isAgg5
 z5:=Tryz.sizeOf5
 v5:=Tryz.zeroValue5
 t9:=Tryz.underlying9
 a9:=Tryz.isAgg9
 z9:=Tryz.sizeOf9
 v9:=Tryz.zeroValue9
 t21:=Tryz.underlying21
 a21:=Tryz.isAgg21
 z21:=Tryz.sizeOf21
 v21:=Tryz.zeroValue21
 t31:=Tryz.underlying31
 a31:=Tryz.isAgg31
 z31:=Tryz.sizeOf31
 v31:=Tryz.zeroValue31
 t46:=Tryz.underlying273
 a46:=Tryz.isAgg273
 z46:=Tryz.sizeOf273
 v46:=Tryz.zeroValue273
 t51:=Tryz.underlying301
 a51:=Tryz.isAgg301
 z51:=Tryz.sizeOf301
 v51:=Tryz.zeroValue301
 t105:=Tryz.underlying376
 a105:=Tryz.isAgg376
 z105:=Tryz.sizeOf376
 v105:=Tryz.zeroValue376
 t119:=Tryz.underlying391
 a119:=Tryz.isAgg391
 z119:=Tryz.sizeOf391
 t138:=Tryz.underlying393
 a138:=Tryz.isAgg393
 z138:=Tryz.sizeOf393
 v138:=Tryz.zeroValue393
 t139:=Tryz.underlying394
 a139:=Tryz.isAgg394
 z139:=Tryz.sizeOf394
 v139:=Tryz.zeroValue394
 t146:=Tryz.underlying395
 a146:=Tryz.isAgg395
 z146:=Tryz.sizeOf395
 v146:=Tryz.zeroValue395
 g1:=by kernel_rfl
 g3:=by kernel_rfl
 g4:=by kernel_rfl }
open Go.RowKit Go.Lib in
theorem Tryz.strings_Split (s sep:ByteArray) (m:Int) (w:World) (hs:s.size<4294967281) (hm:w.cell? ⟨3,0,none⟩=some (.int .i64 m)) (h1:1≤sep.size):
  Calls Tryz.prog 233 #[.string s,.string sep] w fun e w' =>
   e=.returned (.slice (some ⟨w.heap.size,0,none⟩) (Lib.countB s sep+1) (Lib.countB s sep+1))∧w'=w.alloc (.cells ((Lib.splitB sep 0 (Lib.countB s sep) s).map Value.string).toArray 9):=Any.strings_Split Tryz.lays146 (by kernel_rfl) s sep m w hs hm h1
def Tryz.laysM146_ren:Go.Shelf.Ren:=⟨fun | 146=>233 | 221=>286 | 268=>350 | 138=>351 | 143=>352 | 195=>386 | 197=>387 | 218=>388 | 219=>389 | 260=>404 | 217=>252 | 225=>405 | 224=>406 | 267=>407 | 266=>314 | 314=>413|n=>n,fun | 9=>9 | 31=>31 | 3=>3 | 4=>4 | 0=>0 | 105=>376 | 21=>21 | 5=>5 | 46=>273 | 119=>391 | 139=>394 | 138=>393 | 146=>395 | 51=>301|n=>n,fun | 1=>3 | 3=>4 | 4=>5|n=>n⟩
theorem Tryz.laysM146:Go.Proofs.LaysM.n146 Tryz.prog Tryz.laysM146_ren:={
 mixed:=by kernel_rfl
 f138:=Tryz.func351.trans (congrArg some (by kernel_rfl))
 f143:=Tryz.func352.trans (congrArg some (by kernel_rfl))
 f146:=Tryz.func233.trans (congrArg some (by kernel_rfl))
 f195:=Tryz.func386.trans (congrArg some (by kernel_rfl))
 f197:=Tryz.func387.trans (congrArg some (by kernel_rfl))
 f217:=Tryz.func252.trans (congrArg some (by kernel_rfl))
 f218:=Tryz.func388.trans (congrArg some (by kernel_rfl))
 f219:=Tryz.func389.trans (congrArg some (by kernel_rfl))
 f221:=Tryz.func286.trans (congrArg some (by kernel_rfl))
 f224:=Tryz.func406.trans (congrArg some (by kernel_rfl))
 f225:=Tryz.func405.trans (congrArg some (by kernel_rfl))
 f260:=Tryz.func404.trans (congrArg some (by kernel_rfl))
 f266:=Tryz.func314.trans (congrArg some (by kernel_rfl))
 f267:=Tryz.func407.trans (congrArg some (by kernel_rfl))
 f268:=Tryz.func350.trans (congrArg some (by kernel_rfl))
 f314:=Tryz.func413.trans (congrArg some (by kernel_rfl))
 t0:=Tryz.underlying0
 a0:=Tryz.isAgg0
 z0:=Tryz.sizeOf0
 v0:=Tryz.zeroValue0
 t3:=Tryz.underlying3
 a3:=Tryz.isAgg3
 z3:=Tryz.sizeOf3
 v3:=Tryz.zeroValue3
 t4:=Tryz.underlying4
 a4:=Tryz.isAgg4
 z4:=Tryz.sizeOf4
 v4:=Tryz.zeroValue4
 t5:=Tryz.underlying5
 a5:=Tryz.isAgg5
 z5:=Tryz.sizeOf5
 v5:=Tryz.zeroValue5
 t9:=Tryz.underlying9
 a9:=Tryz.isAgg9
 z9:=Tryz.sizeOf9
 v9:=Tryz.zeroValue9
 t21:=Tryz.underlying21
 a21:=Tryz.isAgg21
 z21:=Tryz.sizeOf21
 v21:=Tryz.zeroValue21
 t31:=Tryz.underlying31
 a31:=Tryz.isAgg31
 z31:=Tryz.sizeOf31
 v31:=Tryz.zeroValue31
 t46:=Tryz.underlying273
 a46:=Tryz.isAgg273
 z46:=Tryz.sizeOf273
 v46:=Tryz.zeroValue273
 t51:=Tryz.underlying301
 a51:=Tryz.isAgg301
 z51:=Tryz.sizeOf301
 v51:=Tryz.zeroValue301
 t105:=Tryz.underlying376
 a105:=Tryz.isAgg376
 z105:=Tryz.sizeOf376
 v105:=Tryz.zeroValue376
 t119:=Tryz.underlying391
 a119:=Tryz.isAgg391
 z119:=Tryz.sizeOf391
 t138:=Tryz.underlying393
 a138:=Tryz.isAgg393
 z138:=Tryz.sizeOf393
 v138:=Tryz.zeroValue393
 t139:=Tryz.underlying394
 a139:=Tryz.isAgg394
 z139:=Tryz.sizeOf394
 v139:=Tryz.zeroValue394
 t146:=Tryz.underlying395
 a146:=Tryz.isAgg395
 z146:=Tryz.sizeOf395
 v146:=Tryz.zeroValue395
 g1:=by kernel_rfl
 g3:=by kernel_rfl
 g4:=by kernel_rfl
 i0:=by kernel_rfl
 i3:=by kernel_rfl
 i4:=by kernel_rfl
 i5:=by kernel_rfl
 i9:=by kernel_rfl
 i21:=by kernel_rfl
 i31:=by kernel_rfl
 i46:=by kernel_rfl
 i51:=by kernel_rfl
 i105:=by kernel_rfl
 i138:=by kernel_rfl
 i139:=by kernel_rfl
 i146:=by kernel_rfl
 m1:=by kernel_rfl
 s1_3:=fun w h=>Go.Proofs.cell_of_shapedOpen_int (zero:=#[.int .i64 0]) (t:=3) h (of_decide_eq_true (by kernel_rfl)) (by kernel_rfl) rfl (by kernel_rfl) (by kernel_rfl) Tryz.underlying3
 m3:=by kernel_rfl
 m4:=by kernel_rfl }
open Go.RowKit Go.Sort in
theorem Tryz.slices_Sort_string_none (p:Option Addr) (cap:Nat) (w:World):
  Calls Tryz.prog 228 #[.slice p 0 cap] w fun e w'=>e=.returned (.tuple #[])∧w'=w:=Any.slices_Sort_string_none Tryz.lays190 p cap w
open Go.RowKit Go.Sort in
theorem Tryz.slices_Sort_int_none (p:Option Addr) (cap:Nat) (w:World):
  Calls Tryz.prog 260 #[.slice p 0 cap] w fun e w'=>e=.returned (.tuple #[])∧w'=w:=Any.slices_Sort_int_none Tryz.lays189 p cap w
def Tryz.lays187_ren:Go.Shelf.Ren:=⟨fun | 187=>241 | 255=>292|n=>n,fun | 37=>28 | 5=>5 | 3=>3|n=>n,fun|n=>n⟩
theorem Tryz.lays187:Go.Proofs.Lays.n187 Tryz.prog Tryz.lays187_ren:={
 mixed:=by kernel_rfl
 f187:=Tryz.func241.trans (congrArg some (by kernel_rfl))
 f255:=Tryz.func292.trans (congrArg some (by kernel_rfl))
 t3:=Tryz.underlying3
 a3:=Tryz.isAgg3
 z3:=Tryz.sizeOf3
 v3:=Tryz.zeroValue3
 t5:=Tryz.underlying5
 a5:=Tryz.isAgg5
 z5:=Tryz.sizeOf5
 v5:=Tryz.zeroValue5
 t37:=Tryz.underlying28
 a37:=Tryz.isAgg28
 z37:=Tryz.sizeOf28
 v37:=Tryz.zeroValue28 }
open Go.RowKit Go.Lib in
theorem Tryz.bytes_IndexByte_at (a:Addr) (n c:Nat) (xs:List Int) (cv:Int) (w:World) (hx:xs.length=n) (hc:∀ i,i<n→w.cell? (a.add i)=some (.int .u8 (xs.getD i 0))):
  Calls Tryz.prog 241 #[.slice (some a) n c,.int .u8 cv] w fun e w'=>e=.returned (.int .i64 (Lib.indexByte (Lib.bytesOf xs) cv.toNat.toUInt8))∧w'=w:=Any.bytes_IndexByte_at Tryz.lays187 a n c xs cv w hx hc
end Go.Proofs
end
section
namespace Go.Proofs.YtlbfnbldeefgmaaGreatDoor
open Go Go.Dm
set_option maxRecDepth 100000
set_option maxHeartbeats 4000000
theorem pO {a:List UInt8} {c:Int} (ha:a.length<4611686018427387904):aA Tryz.prog 196 [.c (.p (.s a)),.c (.p (.i .u8 c))] [] fun r h=>r=.c (.p (.i .i64 (Lib.indexByte a c.toNat.toUInt8)))∧h=[] :=
 pC (N:=4611686018427387904) (g:=fun a c=>Lib.indexByte a c.toNat.toUInt8) (enters Tryz.func196 rfl rfl) (fun a c w _=>Tryz.strings_IndexByte ⟨a.toArray⟩ c w) ha
theorem zEz {a:List UInt8} (ha:a.length<4294967281):aA Tryz.prog 233 [.c (.p (.s a)),.c (.p (.s [47]))] [] fun r h=>r=.c (.p (.sl 1 (Go.Dm.encS (oK a))))∧h=[]:=by
 rw [← zEA];exact JK (g1:=Tryz.laysM146_ren.g 1) (enters Tryz.func233 rfl rfl) (fun w h=>Tryz.laysM146.s1_3 w h) (fun s sep m w h1 h2 h3=>Tryz.strings_Split s sep m w h1 h2 h3) ha (by decide)
theorem mF {d:List UInt8} {c:Int} (hd:d≠[]):aA Tryz.prog 241 [.c (.p (.sl 1 (bO d))),.c (.p (.i .u8 c))] [] fun r h=>r=.c (.p (.i .i64 (Lib.indexByte d c.toNat.toUInt8)))∧h=[] :=
 xI (g:=fun a c=>Lib.indexByte a c.toNat.toUInt8) (enters Tryz.func241 rfl rfl) (fun a n c xs cv w h1 h2=>Tryz.bytes_IndexByte_at a n c xs cv w h1 h2) hd
theorem pR {s:List UInt8} (hs:s.length≤1000000000):aA Tryz.prog 115 [.c (.p (.s s))] [] fun r h=>r=.c (.p (.b (aW s)))∧h=[]:=by
 have e0:decide (Lib.indexByte s (Int.toNat 0).toUInt8<0)=s.all fun b=>!(b == 0):=indexByte_none 0 s;have e1:decide (Lib.indexByte s (Int.toNat 47).toUInt8<0)=s.all fun b=>!(b == 47):=indexByte_none 47 s;have e2:decide ((1:Int)≤s.length) = !(s == []):=by cases s <;> simp <;> omega
 have key:aW s=(!(s == []) && decide ((s.length:Int)≤24) && (s.all fun b=>!(b == 0)) && (s.all fun b=>!(b == 47)) && !(s == [46]) && !(s == [46,46])):=by
  unfold aW;rw [CG,e2];cases (s == []) <;> cases decide ((s.length:Int)≤24) <;> cases (s.all fun b=>!(b == 0)) <;> cases (s.all fun b=>!(b == 47)) <;> cases (s == [46]) <;> rfl
 rw [key];clear key e2;generalize (s.all fun b=>!(b == 0))=q0 at e0 ⊢;generalize (s.all fun b=>!(b == 47))=q1 at e1 ⊢;refine ent aB aK Tryz.func115 rfl rfl fun X0 hX=>?_;simp only [Tryz.f115,go_sem]
 repeat' (first|simp only [*,go_sem,Nat.reduceLT,Nat.reduceEqDiff,↓reduceIte,Int.reduceToNat,]|((with_reducible refine dM (pO (by omega)) ?_ ?_ ?_);exact rfl;exact rfl)|with_reducible refine bF (fun _=>?_) (fun _=>?_))
 all_goals first|(simp_all;done)|(simp_all;intros;omega)
theorem eV {p:List UInt8} (hp:p.length≤1000000000):aA Tryz.prog 221 [.c (.p (.s p))] [] fun r h=>r=.c (.p (.b (bT p)))∧h=[]:=by
 by_cases h0:p=[]
 ·subst h0;refine ent aB aK Tryz.func221 rfl rfl fun X0 hX=>?_;simp only [Tryz.f221,go_sem]
  repeat' (simp only [*,go_sem,Nat.reduceLT,Nat.reduceEqDiff,↓reduceIte,beq_self_eq_true])
  rfl
 ·have q0:(p == [])=false:=by simpa using h0
  have hle:∀ x∈oK p,x.length≤p.length:=fun x hx=>by have:=qU p [] x hx;simpa using this
  have hln:(oK p).length≤p.length+1:=oJ p [];refine ent aB aK Tryz.func221 rfl rfl fun X0 hX=>?_;simp only [Tryz.f221,go_sem]
  repeat' (first|simp only [*,go_sem,Nat.reduceLT,Nat.reduceEqDiff,↓reduceIte,]|((with_reducible refine kM (zEz (by omega)) ?_ ?_ ?_);exact rfl;exact fun _=>rfl))
  have key:bT p=((oK p).all aW && decide ((p.length:Int)≤120)):=by rw [bT,q0,Bool.false_or]
  generalize oK p=cs at *;refine aY aB aK (α:=Nat) (fun k=>⟨21,[(0,.c (.p (.s p))),(8,.c (.p (.sl 1 (Go.Dm.encS cs)))),(9,.c (.p (.i .i64 cs.length))),(10,.c (.p (.i .i64 k)))],[]⟩)
   (fun k=>k≤cs.length∧(cs.drop k).all aW=cs.all aW) (fun k=>cs.length-k) 0 ⟨Nat.zero_le _,rfl⟩ (.inl (aI (by rw [hX];rfl) rfl rfl (by simp [aH,aL,aD,aJ,aF,]))) ?_
  rintro k ⟨hk,hs⟩;by_cases hlt:k<cs.length
  ·have hx:cs[k]? = some cs[k]:=List.getElem?_eq_getElem hlt;have hg:=Go.Dm.encS_at hx;have hdr:=drop_at hx;have h1:decide ((k:Int)<(cs.length:Int))=true:=decide_eq_true (by omega);have w1:IntKind.i64.wrap ((k:Int)+1)=k+1:=wrap_i64 (by omega) (by omega);have hxl:=hle _ (List.getElem_mem hlt);generalize cs[k]=x at hx hg hdr hxl;rw [hdr,List.all_cons] at hs;clear hdr hle;cases hb:aW x
   ·rw [hb,Bool.false_and] at hs;rw [key,← hs];clear key hs
    repeat' (first|simp only [*,go_sem,Nat.reduceLT,Nat.reduceEqDiff,↓reduceIte,]|((with_reducible refine dM (pR (by omega)) ?_ ?_ ?_);exact rfl;exact rfl)|((with_reducible refine And.intro ?_ ?_);omega))
   ·rw [hb,Bool.true_and] at hs;have hs':k+1≤cs.length∧(cs.drop (k+1)).all aW=cs.all aW:=⟨by omega,hs⟩
    clear hs key
    repeat' (first|simp only [*,go_sem,Nat.reduceLT,Nat.reduceEqDiff,↓reduceIte,]|((with_reducible refine dM (pR (by omega)) ?_ ?_ ?_);exact rfl;exact rfl)|((with_reducible refine And.intro ?_ ?_);omega))
    exact fD (k+1) hs' (by omega) (aI rfl rfl rfl (by simp [aH,aL,aD,aJ,aF,]))
  ·have h1:decide ((k:Int)<(cs.length:Int))=false:=decide_eq_false (by omega);rw [List.drop_of_length_le (by omega),List.all_nil] at hs;rw [key,← hs,Bool.true_and];clear key hs hle
   repeat' (simp only [*,go_sem,Nat.reduceLT,Nat.reduceEqDiff,↓reduceIte,])
theorem zK5 {k m:Int} {t:Nat} {d:List UInt8}:aA Tryz.prog 274 [.agg (ndc k m t d)] [] fun r h=>r=.c (.p (.b (zBv ⟨k,m,t,d⟩)))∧h=[]:=by
 have e0:decide (Lib.indexByte d (Int.toNat 0).toUInt8<0)=d.all fun b=>!(b == 0):=indexByte_none 0 d;by_cases hd:d=[]
 ·subst hd;refine ent aB aK Tryz.func274 rfl rfl fun X0 hX=>?_;simp only [Tryz.f274,go_sem]
  repeat' (first|simp only [*,go_sem,Nat.reduceLT,Nat.reduceEqDiff,↓reduceIte,Int.reduceLE,beq_self_eq_true]|with_reducible refine aO (fun _=>?_) (fun _=>?_))
  all_goals simp_all [zBv]
 ·have h1:decide ((1:Int)≤(d.length:Int))=true:=by
   have:=List.length_pos_iff.2 hd;exact decide_eq_true (by omega)
  refine ent aB aK Tryz.func274 rfl rfl fun X0 hX=>?_;simp only [Tryz.f274,go_sem];unfold zBv;generalize (d.all fun b=>!(b == 0))=q0 at e0 ⊢
  repeat' (first|simp only [*,go_sem,Nat.reduceLT,Nat.reduceEqDiff,↓reduceIte,Int.reduceToNat,]|((with_reducible refine dM (mF hd) ?_ ?_ ?_);exact rfl;exact rfl)|with_reducible refine aO (fun _=>?_) (fun _=>?_)|with_reducible refine bF (fun _=>?_) (fun _=>?_))
  all_goals first|(simp_all;done)|(simp_all;intros;omega)
theorem dL {k m:Int} {t:Nat} {d:List UInt8} (ht:t<18446744073709551616):aA Tryz.prog 222 [.agg (ndc k m t d)] [] fun r h=>r=.c (.p (.b (aS ⟨k,m,t,d⟩)))∧h=[]:=by
 rw [← GG (n:=⟨k,m,t,d⟩) ht];refine ent aB aK Tryz.func222 rfl rfl fun X0 hX=>?_;simp only [Tryz.f222,go_sem]
 repeat' (first|simp only [*,go_sem,Nat.reduceLT,Nat.reduceLeDiff,Nat.reduceEqDiff,↓reduceIte,Nat.reduceAdd,]|((with_reducible refine dM (zK5) ?_ ?_ ?_);exact rfl;exact rfl)|((refine aN (id:=1) aB aK [] [0,1,2,3,4,5,6,7,8] (by decide +kernel) ?_);(repeat' (first|(refine aT ?_)|((refine bV ?_ rfl rfl ?_ ?_);(rotate_left 1);(focus ((repeat' (first|simp only [*,go_sem,Nat.reduceLT,Nat.reduceEqDiff,↓reduceIte,]|((with_reducible refine dM (cX _) ?_ ?_ ?_);exact rfl;exact rfl)|((with_reducible refine dM (wR _) ?_ ?_ ?_);exact rfl;exact rfl)));exact rfl));(simp only [aG])))))|with_reducible refine bF (fun _=>?_) (fun _=>?_))
 all_goals first|(simp_all [oS,yT];done)|(simp_all [oS];intros;omega)
end Go.Proofs.YtlbfnbldeefgmaaGreatDoor
end
