/- Part 27 of roomPlays_card. No condition. -/
import Derived.Shelf.Small.Bits
import Derived.Shelf.Small.Wraps
import Derived.Shelf.Strconv.Itoa0
import Derived.Shelf.Strings.Search1
import Derived.Shelf.Strings.Search2
import Derived.Shelf.Strings.Search3
import Derived.Shelf.Strings.Count
import Derived.Shelf.LaysM
import Derived.Shelf.Strings.Shaped
import Derived.Shelf.Sort.Plain
import Derived.Shelf.Strings.LastIndex
import Derived.Shelf.Strings.Prefix
import Derived.Shelf.Strings.Split
import Derived.Shelf.Strings.SplitShaped
import Derived.Shelf.Unicode.DecodeSlow
import Derived.Shelf.Slices.Reverse
import Derived.Shelf.Slices.CompactS
import Derived.Ground.Names2Prog
import Derived.Shelf.Slices.SearchI
import Derived.Shelf.Slices.Cells
import Derived.Shelf.Slices.In.SortNone
import Derived.Shelf.Bytes.SlIndexAt
import Derived.Shelf.Bytes.Small
import Derived.Shelf.Bytes.IndexByte
import Derived.Test.YtfcindonokhbeaaGreatDoorProg
import Derived.Shelf.Spec.SlicesGrow
import Derived.Ground.Names8Prog
import Derived.Ground.SlsfProg
import Derived.Shelf.SlSortCmp.WholeK
import Derived.Shelf.SlSortCmp.NoneTotal
import Derived.Test.YtfcindonokhbeaaGreatDoorP21
import Derived.Shelf.SlBodiesN
import Derived.Shelf.RegionOpenPlain
import Derived.Deep.RegionLaw
import Derived.Lib.SliceRun
import Derived.Test.YtfcindonokhbeaaGreatDoorP22
set_option linter.all false
set_option maxRecDepth 100000
set_option maxHeartbeats 0
section
namespace Go.Proofs
open Go.Shelf Tryz
def qF{α:Type}{p:Option α}{x y:α}(h:p=some x)(e:x=y:=by kernel_rfl):p=some y:=h.trans (congrArg some e)
def Tryz.lays106_ren:Go.Shelf.Ren:=⟨λ| 106=>144 | 213=>208 | 265=>273|n=>n,λ| 9=>9 | 3=>3|n=>n,fun|n=>n⟩
def Tryz.lays106:Go.Proofs.Lays.n106 Tryz.prog Tryz.lays106_ren:=⟨by kernel_rfl,qF func144,qF func208,qF func273,underlying3,isAgg3,sizeOf3,zeroValue3,underlying9,isAgg9,sizeOf9,zeroValue9⟩
open Go.RowKit in
def Tryz.strings_Compare(a b:ByteArray)(w:World):
  Calls Tryz.prog 144 #[.string a,.string b] w λe w'=>e=.returned (.int .i64 (Lib.compareBytes a.data.toList b.data.toList))/\w'=w:=Any.strings_Compare Tryz.lays106 a b w
def Tryz.lays137_ren:Go.Shelf.Ren:=⟨λ| 137=>164 | 217=>225 | 266=>299|n=>n,λ| 9=>9 | 5=>5 | 3=>3|n=>n,fun|n=>n⟩
def Tryz.lays137:Go.Proofs.Lays.n137 Tryz.prog Tryz.lays137_ren:=⟨by kernel_rfl,qF func164,qF func225,qF func299,underlying3,isAgg3,sizeOf3,zeroValue3,underlying5,isAgg5,sizeOf5,zeroValue5,underlying9,isAgg9,sizeOf9,zeroValue9⟩
open Go.RowKit in
def Tryz.strings_IndexByte(s:ByteArray)(c:Int)(w:World):
  Calls Tryz.prog 164 #[.string s,.int .u8 c] w λe w'=>e=.returned (.int .i64 (Lib.indexByte s.data.toList c.toNat.toUInt8))/\w'=w:=Any.strings_IndexByte Tryz.lays137 s c w
def Tryz.lays189_ren:Go.Shelf.Ren:=⟨λ| 189=>218 | 125=>204 | 257=>288 | 128=>260 | 129=>261 | 294=>335 | 295=>336 | 296=>337 | 297=>338 | 298=>339 | 299=>340 | 216=>341 | 300=>342 | 301=>343 | 328=>371 | 329=>320 | 330=>321 | 331=>372 | 332=>373 | 215=>332 | 343=>385|n=>n,λ| 28=>152 | 3=>3 | 46=>254 | 0=>0 | 51=>287 | 53=>173 | 4=>4 | 183=>281 | 182=>280 | 131=>142 | 5=>5 | 9=>9 | 218=>328 | 222=>332 | 228=>355 | 229=>322|n=>n,fun|n=>n⟩
def Tryz.lays189:Go.Proofs.Lays.n189 Tryz.prog Tryz.lays189_ren:=⟨by kernel_rfl,qF func204,qF func260,qF func261,qF func218,qF func332,qF func341,qF func288,qF func335,qF func336,qF func337,qF func338,qF func339,qF func340,qF func342,qF func343,qF func371,qF func320,qF func321,qF func372,qF func373,qF func385,underlying0,isAgg0,sizeOf0,zeroValue0,underlying3,isAgg3,sizeOf3,zeroValue3,underlying4,isAgg4,sizeOf4,zeroValue4,underlying5,isAgg5,sizeOf5,zeroValue5,underlying9,isAgg9,sizeOf9,zeroValue9,underlying152,isAgg152,sizeOf152,zeroValue152,underlying254,isAgg254,sizeOf254,zeroValue254,underlying287,isAgg287,sizeOf287,zeroValue287,underlying173,isAgg173,sizeOf173,zeroValue173,underlying142,isAgg142,sizeOf142,zeroValue142,underlying280,isAgg280,sizeOf280,zeroValue280,underlying281,isAgg281,sizeOf281,zeroValue281,underlying328,isAgg328,sizeOf328,zeroValue328,underlying332,isAgg332,sizeOf332,zeroValue332,underlying355,isAgg355,sizeOf355,zeroValue355,underlying322,isAgg322,sizeOf322,zeroValue322⟩
open Go.Sort Go.RowKit in
def Tryz.slices_Sort_int(a off cap:Nat)(zs:List Int)(w:World)(d:Holds (Value.int .i64) w a off zs.toArray)(b:a<w.heap.size)(c:zs.length<4611686018427387904):
  Calls Tryz.prog 218 #[.slice (some ⟨a,off,none⟩) zs.length cap] w λe w' =>
   e=.returned (.tuple #[])/\∃n os,w'=grow (putRow (Value.int .i64) (Sort.ahead w n) a off (zs.mergeSort λx y=>decide (x<=y)).toArray) os:=Any.slices_Sort_int Tryz.lays189 a off cap zs w d b c
def Tryz.lays190_ren:Go.Shelf.Ren:=⟨λ| 190=>135 | 125=>204 | 258=>203 | 128=>260 | 129=>261 | 302=>251 | 303=>252 | 304=>253 | 305=>254 | 306=>255 | 307=>256 | 308=>257 | 309=>258 | 310=>259 | 333=>319 | 329=>320 | 330=>321 | 334=>322 | 335=>323 | 336=>324 | 344=>361|n=>n,λ| 31=>45 | 9=>9 | 3=>3 | 46=>254 | 0=>0 | 51=>287 | 53=>173 | 4=>4 | 183=>281 | 182=>280 | 131=>142 | 5=>5 | 218=>328 | 222=>332 | 228=>355 | 229=>322|n=>n,fun|n=>n⟩
def Tryz.lays190:Go.Proofs.Lays.n190 Tryz.prog Tryz.lays190_ren:=⟨by kernel_rfl,qF func204,qF func260,qF func261,qF func135,qF func203,qF func251,qF func252,qF func253,qF func254,qF func255,qF func256,qF func257,qF func258,qF func259,qF func320,qF func321,qF func319,qF func322,qF func323,qF func324,qF func361,underlying0,isAgg0,sizeOf0,zeroValue0,underlying3,isAgg3,sizeOf3,zeroValue3,underlying4,isAgg4,sizeOf4,zeroValue4,underlying5,isAgg5,sizeOf5,zeroValue5,underlying9,isAgg9,sizeOf9,zeroValue9,underlying45,isAgg45,sizeOf45,zeroValue45,underlying254,isAgg254,sizeOf254,zeroValue254,underlying287,isAgg287,sizeOf287,zeroValue287,underlying173,isAgg173,sizeOf173,zeroValue173,underlying142,isAgg142,sizeOf142,zeroValue142,underlying280,isAgg280,sizeOf280,zeroValue280,underlying281,isAgg281,sizeOf281,zeroValue281,underlying328,isAgg328,sizeOf328,zeroValue328,underlying332,isAgg332,sizeOf332,zeroValue332,underlying355,isAgg355,sizeOf355,zeroValue355,underlying322,isAgg322,sizeOf322,zeroValue322⟩
open Go.Sort Go.RowKit in
def Tryz.slices_Sort_string(a off cap:Nat)(ss:List (List UInt8))(w:World)(d:Holds encStr w a off ss.toArray)(b:a<w.heap.size)(c:ss.length<4611686018427387904):
  Calls Tryz.prog 135 #[.slice (some ⟨a,off,none⟩) ss.length cap] w λe w' =>
   e=.returned (.tuple #[])/\∃n os,w'=grow (putRow encStr (Sort.ahead w n) a off (ss.mergeSort λx y=>decide (x<=y)).toArray) os:=Any.slices_Sort_string Tryz.lays190 a off cap ss w d b c
def Tryz.lays149_ren:Go.Shelf.Ren:=⟨λ| 149=>229 | 222=>304|n=>n,λ| 9=>9 | 5=>5 | 3=>3 | 4=>4|n=>n,fun|n=>n⟩
def Tryz.lays149:Go.Proofs.Lays.n149 Tryz.prog Tryz.lays149_ren:=⟨by kernel_rfl,qF func229,qF func304,underlying3,isAgg3,sizeOf3,zeroValue3,underlying4,isAgg4,sizeOf4,zeroValue4,underlying5,isAgg5,sizeOf5,zeroValue5,underlying9,isAgg9,sizeOf9,zeroValue9⟩
open Go.RowKit Go.Lib in
def Tryz.strings_LastIndexByte(s:ByteArray)(c:Int)(a:s.size<4611686018427387904)(w:World):
  Calls Tryz.prog 229 #[.string s,.int .u8 c] w λe w'=>e=.returned (.int .i64 (Lib.lastIndexByte s c))/\w'=w:=Any.strings_LastIndexByte Tryz.lays149 s c a w
def Tryz.lays99_ren:Go.Shelf.Ren:=⟨λ| 99=>309 | 206=>357|n=>n,λ| 9=>9 | 4=>4 | 3=>3|n=>n,fun|n=>n⟩
def Tryz.lays99:Go.Proofs.Lays.n99 Tryz.prog Tryz.lays99_ren:=⟨by kernel_rfl,qF func309,qF func357,underlying3,isAgg3,sizeOf3,zeroValue3,underlying4,isAgg4,sizeOf4,zeroValue4,underlying9,isAgg9,sizeOf9,zeroValue9⟩
open Go.RowKit Go.Lib in
def Tryz.strings_HasPrefix(s p:ByteArray)(w:World):
  Calls Tryz.prog 309 #[.string s,.string p] w λe w'=>e=.returned (.bool (Lib.hasPrefix s.data.toList p.data.toList))/\w'=w:=Any.strings_HasPrefix Tryz.lays99 s p w
def Tryz.lays146_ren:Go.Shelf.Ren:=⟨λ| 146=>228 | 221=>303 | 268=>353 | 138=>354 | 143=>355 | 195=>378 | 197=>379 | 218=>380 | 219=>381 | 260=>387 | 217=>225 | 225=>388 | 224=>389 | 267=>390 | 266=>299 | 314=>393|n=>n,λ| 9=>9 | 31=>45 | 3=>3 | 4=>4 | 0=>0 | 105=>367 | 21=>21 | 5=>5 | 46=>254 | 119=>374 | 139=>377 | 138=>376 | 146=>378 | 51=>287|n=>n,λ| 1=>3 | 3=>4 | 4=>5|n=>n⟩
def Tryz.lays146:Go.Proofs.Lays.n146 Tryz.prog Tryz.lays146_ren:=⟨by kernel_rfl,qF func354,qF func355,qF func228,qF func378,qF func379,qF func225,qF func380,qF func381,qF func303,qF func389,qF func388,qF func387,qF func299,qF func390,qF func353,qF func393,underlying0,isAgg0,sizeOf0,zeroValue0,underlying3,isAgg3,sizeOf3,zeroValue3,underlying4,isAgg4,sizeOf4,zeroValue4,underlying5,isAgg5,sizeOf5,zeroValue5,underlying9,isAgg9,sizeOf9,zeroValue9,underlying21,isAgg21,sizeOf21,zeroValue21,underlying45,isAgg45,sizeOf45,zeroValue45,underlying254,isAgg254,sizeOf254,zeroValue254,underlying287,isAgg287,sizeOf287,zeroValue287,underlying367,isAgg367,sizeOf367,zeroValue367,underlying374,isAgg374,sizeOf374,underlying376,isAgg376,sizeOf376,zeroValue376,underlying377,isAgg377,sizeOf377,zeroValue377,underlying378,isAgg378,sizeOf378,zeroValue378,by kernel_rfl,by kernel_rfl,by kernel_rfl⟩
open Go.RowKit Go.Lib in
def Tryz.strings_Split(s a:ByteArray)(m:Int)(w:World)(b:s.size<4294967281)(c:w.cell? ⟨3,0,none⟩=some (.int .i64 m))(h1:1<=a.size):
  Calls Tryz.prog 228 #[.string s,.string a] w λe w' =>
   e=.returned (.slice (some ⟨w.heap.size,0,none⟩) (Lib.countB s a+1) (Lib.countB s a+1))/\w'=w.alloc (.cells ((Lib.splitB a 0 (Lib.countB s a) s).map Value.string).toArray 9):=Any.strings_Split Tryz.lays146 (by kernel_rfl) s a m w b c h1
def Tryz.laysM146_ren:Go.Shelf.Ren:=⟨λ| 146=>228 | 221=>303 | 268=>353 | 138=>354 | 143=>355 | 195=>378 | 197=>379 | 218=>380 | 219=>381 | 260=>387 | 217=>225 | 225=>388 | 224=>389 | 267=>390 | 266=>299 | 314=>393|n=>n,λ| 9=>9 | 31=>45 | 3=>3 | 4=>4 | 0=>0 | 105=>367 | 21=>21 | 5=>5 | 46=>254 | 119=>374 | 139=>377 | 138=>376 | 146=>378 | 51=>287|n=>n,λ| 1=>3 | 3=>4 | 4=>5|n=>n⟩
def Tryz.laysM146:Go.Proofs.LaysM.n146 Tryz.prog Tryz.laysM146_ren:={mixed:=by kernel_rfl,f138:=qF func354,f143:=qF func355,f146:=qF func228,f195:=qF func378,f197:=qF func379,f217:=qF func225,f218:=qF func380,f219:=qF func381,f221:=qF func303,f224:=qF func389,f225:=qF func388,f260:=qF func387,f266:=qF func299,f267:=qF func390,f268:=qF func353,f314:=qF func393,t0:=underlying0,a0:=isAgg0,z0:=sizeOf0,v0:=zeroValue0,t3:=underlying3,a3:=isAgg3,z3:=sizeOf3,v3:=zeroValue3,t4:=underlying4,a4:=isAgg4,z4:=sizeOf4,v4:=zeroValue4,t5:=underlying5,a5:=isAgg5,z5:=sizeOf5,v5:=zeroValue5,t9:=underlying9,a9:=isAgg9,z9:=sizeOf9,v9:=zeroValue9,t21:=underlying21,a21:=isAgg21,z21:=sizeOf21,v21:=zeroValue21,t31:=underlying45,a31:=isAgg45,z31:=sizeOf45,v31:=zeroValue45,t46:=underlying254,a46:=isAgg254,z46:=sizeOf254,v46:=zeroValue254,t51:=underlying287,a51:=isAgg287,z51:=sizeOf287,v51:=zeroValue287,t105:=underlying367,a105:=isAgg367,z105:=sizeOf367,v105:=zeroValue367,t119:=underlying374,a119:=isAgg374,z119:=sizeOf374,t138:=underlying376,a138:=isAgg376,z138:=sizeOf376,v138:=zeroValue376,t139:=underlying377,a139:=isAgg377,z139:=sizeOf377,v139:=zeroValue377,t146:=underlying378,a146:=isAgg378,z146:=sizeOf378,v146:=zeroValue378,g1:=by kernel_rfl,g3:=by kernel_rfl,g4:=by kernel_rfl,i0:=by kernel_rfl,i3:=by kernel_rfl,i4:=by kernel_rfl,i5:=by kernel_rfl,i9:=by kernel_rfl,i21:=by kernel_rfl,i31:=by kernel_rfl,i46:=by kernel_rfl,i51:=by kernel_rfl,i105:=by kernel_rfl,i138:=by kernel_rfl,i139:=by kernel_rfl,i146:=by kernel_rfl,m1:=by kernel_rfl,s1_3:=λw h=>Go.Proofs.cell_of_shapedOpen_int (zero:=#[.int .i64 0]) (t:=3) h (of_decide_eq_true (by kernel_rfl)) (by kernel_rfl) rfl (by kernel_rfl) (by kernel_rfl) underlying3,m3:=by kernel_rfl,m4:=by kernel_rfl}
def Tryz.lays194_ren:Go.Shelf.Ren:=⟨λ| 194=>136|n=>n,λ| 31=>45 | 9=>9 | 3=>3 | 4=>4 | 0=>0|n=>n,fun|n=>n⟩
def Tryz.lays194:Go.Proofs.Lays.n194 Tryz.prog Tryz.lays194_ren:=⟨by kernel_rfl,qF func136,underlying0,isAgg0,sizeOf0,zeroValue0,underlying3,isAgg3,sizeOf3,zeroValue3,underlying4,isAgg4,sizeOf4,zeroValue4,underlying9,isAgg9,sizeOf9,zeroValue9,underlying45,isAgg45,sizeOf45,zeroValue45⟩
open Go.RowKit Go.Lib Go.Sort in
def Tryz.slices_Compact_string(a off cap:Nat)(zs:List (List UInt8))(w:World)(d:Holds encStr w a off zs.toArray)(c:zs.length<=9223372036854775807)(b:zs.length<=cap):
  Calls Tryz.prog 136 #[.slice (some ⟨a,off,none⟩) zs.length cap] w λe w'=>e=.returned (.slice (some ⟨a,off,none⟩) (Lib.compact zs).length cap)/\∃q,w'=putRow encStr (Sort.ahead w q) a off (Lib.compact zs++List.replicate (zs.length-(Lib.compact zs).length) []).toArray:=Any.slices_Compact_string Tryz.lays194 a off cap zs w d c b
open Go.RowKit Go.Lib Go.Sort in
def Tryz.slices_Compact_string_empty(a:Option Addr)(cap:Nat)(w:World):
  Calls Tryz.prog 136 #[.slice a 0 cap] w λe w'=>e=.returned (.slice a 0 cap)/\w'=w:=Any.slices_Compact_string_empty Tryz.lays194 a cap w
open Go.RowKit Go.Sort in
def Tryz.slices_Sort_string_none(p:Option Addr)(cap:Nat)(w:World):
  Calls Tryz.prog 135 #[.slice p 0 cap] w λe w'=>e=.returned (.tuple #[])/\w'=w:=Any.slices_Sort_string_none Tryz.lays190 p cap w
open Go.RowKit Go.Sort in
def Tryz.slices_Sort_int_none(p:Option Addr)(cap:Nat)(w:World):
  Calls Tryz.prog 218 #[.slice p 0 cap] w λe w'=>e=.returned (.tuple #[])/\w'=w:=Any.slices_Sort_int_none Tryz.lays189 p cap w
def Tryz.lays187_ren:Go.Shelf.Ren:=⟨λ| 187=>235 | 255=>307|n=>n,λ| 37=>32 | 5=>5 | 3=>3|n=>n,fun|n=>n⟩
def Tryz.lays187:Go.Proofs.Lays.n187 Tryz.prog Tryz.lays187_ren:=⟨by kernel_rfl,qF func235,qF func307,underlying3,isAgg3,sizeOf3,zeroValue3,underlying5,isAgg5,sizeOf5,zeroValue5,underlying32,isAgg32,sizeOf32,zeroValue32⟩
open Go.RowKit Go.Lib in
def Tryz.bytes_IndexByte_at(a:Addr)(n c:Nat)(b:List Int)(cv:Int)(w:World)(d:b.length=n)(f:∀i,i<n->w.cell? (a.add i)=some (.int .u8 (b.getD i 0))):
  Calls Tryz.prog 235 #[.slice (some a) n c,.int .u8 cv] w λe w'=>e=.returned (.int .i64 (Lib.indexByte (Lib.bytesOf b) cv.toNat.toUInt8))/\w'=w:=Any.bytes_IndexByte_at Tryz.lays187 a n c b cv w d f
end Go.Proofs
end
section
namespace Go.Proofs
open Go.Shelf
def Tryz.growItem_ren:Go.Shelf.Ren:=⟨λ| 4=>202|n=>n,λ| 22=>71 | 25=>147 | 3=>3 | 4=>4 | 9=>9 | 20=>20 | 0=>0|n=>n,fun|n=>n⟩
def Tryz.growItem:Go.Proofs.Lays8.n4 Tryz.prog Tryz.growItem_ren:={
 mixed:=by kernel_rfl
 f4:=⟨Tryz.f202.name,by decide,Tryz.func202.trans (congrArg some (by kernel_rfl))⟩
 t0:=Tryz.underlying0
 a0:=Tryz.isAgg0
 z0:=Tryz.sizeOf0
 v0:=Tryz.zeroValue0
 t3:=Tryz.underlying3
 a3:=Tryz.isAgg3
 z3:=Tryz.sizeOf3
 v3:=Tryz.zeroValue3
 t4:=Tryz.underlying4
 a4:=Tryz.isAgg4
 z4:=Tryz.sizeOf4
 v4:=Tryz.zeroValue4
 t9:=Tryz.underlying9
 a9:=Tryz.isAgg9
 z9:=Tryz.sizeOf9
 v9:=Tryz.zeroValue9
 t20:=Tryz.underlying20
 a20:=Tryz.isAgg20
 z20:=Tryz.sizeOf20
 v20:=Tryz.zeroValue20
 t22:=Tryz.underlying71
 a22:=Tryz.isAgg71
 z22:=Tryz.sizeOf71
 v22:=Tryz.zeroValue71 }
def Tryz.growConf_ren:Go.Shelf.Ren:=⟨λ| 4=>283|n=>n,λ| 22=>49 | 25=>136 | 3=>3 | 4=>4 | 9=>9 | 20=>20 | 0=>0|n=>n,fun|n=>n⟩
def Tryz.growConf:Go.Proofs.Lays8.n4 Tryz.prog Tryz.growConf_ren:={
 mixed:=by kernel_rfl
 f4:=⟨Tryz.f283.name,by decide,Tryz.func283.trans (congrArg some (by kernel_rfl))⟩
 t0:=Tryz.underlying0
 a0:=Tryz.isAgg0
 z0:=Tryz.sizeOf0
 v0:=Tryz.zeroValue0
 t3:=Tryz.underlying3
 a3:=Tryz.isAgg3
 z3:=Tryz.sizeOf3
 v3:=Tryz.zeroValue3
 t4:=Tryz.underlying4
 a4:=Tryz.isAgg4
 z4:=Tryz.sizeOf4
 v4:=Tryz.zeroValue4
 t9:=Tryz.underlying9
 a9:=Tryz.isAgg9
 z9:=Tryz.sizeOf9
 v9:=Tryz.zeroValue9
 t20:=Tryz.underlying20
 a20:=Tryz.isAgg20
 z20:=Tryz.sizeOf20
 v20:=Tryz.zeroValue20
 t22:=Tryz.underlying49
 a22:=Tryz.isAgg49
 z22:=Tryz.sizeOf49
 v22:=Tryz.zeroValue49 }
end Go.Proofs
end
section
namespace Go.Proofs
open Go.Shelf Tryz
def qG{α:Type}{p:Option α}{x y:α}(h:p=some x)(e:x=y:=by kernel_rfl):p=some y:=h.trans (congrArg some e)
def Tryz.laysSlF06_f142_ren:Go.Shelf.Ren:=⟨λ| 6=>142 | 15=>204 | 14=>207 | 28=>260 | 29=>261 | 20=>265 | 21=>266 | 22=>267 | 23=>268 | 24=>269 | 25=>270 | 26=>271 | 27=>272 | 46=>325 | 47=>320 | 48=>321 | 49=>326 | 50=>327 | 57=>362|n=>n,λ| 22=>71 | 24=>147 | 25=>207 | 3=>3 | 39=>254 | 0=>0 | 53=>287 | 55=>173 | 4=>4 | 46=>281 | 45=>280 | 50=>142 | 5=>5 | 9=>9 | 66=>328 | 70=>332 | 76=>355 | 77=>322|n=>n,fun|n=>n⟩
def Tryz.laysSlF06_f142:Go.Proofs.SlLaysF0.n6 Tryz.prog Tryz.laysSlF06_f142_ren:=⟨by kernel_rfl,⟨Tryz.f142.name,by decide,qG func142⟩,⟨Tryz.f207.name,by decide,qG func207⟩,qG func204,⟨Tryz.f265.name,by decide,qG func265⟩,⟨Tryz.f266.name,by decide,qG func266⟩,⟨Tryz.f267.name,by decide,qG func267⟩,⟨Tryz.f268.name,by decide,qG func268⟩,⟨Tryz.f269.name,by decide,qG func269⟩,⟨Tryz.f270.name,by decide,qG func270⟩,⟨Tryz.f271.name,by decide,qG func271⟩,⟨Tryz.f272.name,by decide,qG func272⟩,qG func260,qG func261,⟨Tryz.f325.name,by decide,qG func325⟩,qG func320,qG func321,⟨Tryz.f326.name,by decide,qG func326⟩,⟨Tryz.f327.name,by decide,qG func327⟩,⟨Tryz.f362.name,by decide,qG func362⟩,underlying0,isAgg0,sizeOf0,zeroValue0,underlying3,isAgg3,sizeOf3,zeroValue3,underlying4,isAgg4,sizeOf4,zeroValue4,underlying5,isAgg5,sizeOf5,zeroValue5,underlying9,isAgg9,sizeOf9,zeroValue9,underlying71,isAgg71,sizeOf71,zeroValue71,underlying207,isAgg207,sizeOf207,zeroValue207,underlying254,isAgg254,sizeOf254,zeroValue254,underlying280,isAgg280,sizeOf280,zeroValue280,underlying281,isAgg281,sizeOf281,zeroValue281,underlying142,isAgg142,sizeOf142,zeroValue142,underlying287,isAgg287,sizeOf287,zeroValue287,underlying173,isAgg173,sizeOf173,zeroValue173,underlying328,isAgg328,sizeOf328,zeroValue328,underlying332,isAgg332,sizeOf332,zeroValue332,underlying355,isAgg355,sizeOf355,zeroValue355,underlying322,isAgg322,sizeOf322,zeroValue322⟩
def Tryz.laysSlF06_f151_ren:Go.Shelf.Ren:=⟨λ| 6=>151 | 15=>204 | 14=>221 | 28=>260 | 29=>261 | 20=>291 | 21=>292 | 22=>293 | 23=>294 | 24=>295 | 25=>296 | 26=>297 | 27=>298 | 46=>345 | 47=>320 | 48=>321 | 49=>346 | 50=>347 | 57=>374|n=>n,λ| 22=>103 | 24=>149 | 25=>212 | 3=>3 | 39=>254 | 0=>0 | 53=>287 | 55=>173 | 4=>4 | 46=>281 | 45=>280 | 50=>142 | 5=>5 | 9=>9 | 66=>328 | 70=>332 | 76=>355 | 77=>322|n=>n,fun|n=>n⟩
def Tryz.laysSlF06_f151:Go.Proofs.SlLaysF0.n6 Tryz.prog Tryz.laysSlF06_f151_ren:=⟨by kernel_rfl,⟨Tryz.f151.name,by decide,qG func151⟩,⟨Tryz.f221.name,by decide,qG func221⟩,qG func204,⟨Tryz.f291.name,by decide,qG func291⟩,⟨Tryz.f292.name,by decide,qG func292⟩,⟨Tryz.f293.name,by decide,qG func293⟩,⟨Tryz.f294.name,by decide,qG func294⟩,⟨Tryz.f295.name,by decide,qG func295⟩,⟨Tryz.f296.name,by decide,qG func296⟩,⟨Tryz.f297.name,by decide,qG func297⟩,⟨Tryz.f298.name,by decide,qG func298⟩,qG func260,qG func261,⟨Tryz.f345.name,by decide,qG func345⟩,qG func320,qG func321,⟨Tryz.f346.name,by decide,qG func346⟩,⟨Tryz.f347.name,by decide,qG func347⟩,⟨Tryz.f374.name,by decide,qG func374⟩,underlying0,isAgg0,sizeOf0,zeroValue0,underlying3,isAgg3,sizeOf3,zeroValue3,underlying4,isAgg4,sizeOf4,zeroValue4,underlying5,isAgg5,sizeOf5,zeroValue5,underlying9,isAgg9,sizeOf9,zeroValue9,underlying103,isAgg103,sizeOf103,zeroValue103,underlying212,isAgg212,sizeOf212,zeroValue212,underlying254,isAgg254,sizeOf254,zeroValue254,underlying280,isAgg280,sizeOf280,zeroValue280,underlying281,isAgg281,sizeOf281,zeroValue281,underlying142,isAgg142,sizeOf142,zeroValue142,underlying287,isAgg287,sizeOf287,zeroValue287,underlying173,isAgg173,sizeOf173,zeroValue173,underlying328,isAgg328,sizeOf328,zeroValue328,underlying332,isAgg332,sizeOf332,zeroValue332,underlying355,isAgg355,sizeOf355,zeroValue355,underlying322,isAgg322,sizeOf322,zeroValue322⟩
def Tryz.laysSlF06_f278_ren:Go.Shelf.Ren:=⟨λ| 6=>278 | 15=>204 | 14=>331 | 28=>260 | 29=>261 | 20=>363 | 21=>364 | 22=>365 | 23=>366 | 24=>367 | 25=>368 | 26=>369 | 27=>370 | 46=>382 | 47=>320 | 48=>321 | 49=>383 | 50=>384 | 57=>391|n=>n,λ| 22=>49 | 24=>136 | 25=>301 | 3=>3 | 39=>254 | 0=>0 | 53=>287 | 55=>173 | 4=>4 | 46=>281 | 45=>280 | 50=>142 | 5=>5 | 9=>9 | 66=>328 | 70=>332 | 76=>355 | 77=>322|n=>n,fun|n=>n⟩
def Tryz.laysSlF06_f278:Go.Proofs.SlLaysF0.n6 Tryz.prog Tryz.laysSlF06_f278_ren:=⟨by kernel_rfl,⟨Tryz.f278.name,by decide,qG func278⟩,⟨Tryz.f331.name,by decide,qG func331⟩,qG func204,⟨Tryz.f363.name,by decide,qG func363⟩,⟨Tryz.f364.name,by decide,qG func364⟩,⟨Tryz.f365.name,by decide,qG func365⟩,⟨Tryz.f366.name,by decide,qG func366⟩,⟨Tryz.f367.name,by decide,qG func367⟩,⟨Tryz.f368.name,by decide,qG func368⟩,⟨Tryz.f369.name,by decide,qG func369⟩,⟨Tryz.f370.name,by decide,qG func370⟩,qG func260,qG func261,⟨Tryz.f382.name,by decide,qG func382⟩,qG func320,qG func321,⟨Tryz.f383.name,by decide,qG func383⟩,⟨Tryz.f384.name,by decide,qG func384⟩,⟨Tryz.f391.name,by decide,qG func391⟩,underlying0,isAgg0,sizeOf0,zeroValue0,underlying3,isAgg3,sizeOf3,zeroValue3,underlying4,isAgg4,sizeOf4,zeroValue4,underlying5,isAgg5,sizeOf5,zeroValue5,underlying9,isAgg9,sizeOf9,zeroValue9,underlying49,isAgg49,sizeOf49,zeroValue49,underlying301,isAgg301,sizeOf301,zeroValue301,underlying254,isAgg254,sizeOf254,zeroValue254,underlying280,isAgg280,sizeOf280,zeroValue280,underlying281,isAgg281,sizeOf281,zeroValue281,underlying142,isAgg142,sizeOf142,zeroValue142,underlying287,isAgg287,sizeOf287,zeroValue287,underlying173,isAgg173,sizeOf173,zeroValue173,underlying328,isAgg328,sizeOf328,zeroValue328,underlying332,isAgg332,sizeOf332,zeroValue332,underlying355,isAgg355,sizeOf355,zeroValue355,underlying322,isAgg322,sizeOf322,zeroValue322⟩
open Go.RowKit Go.Lib Go.Sort in
def Tryz.slices_SortFunc_f142{α:Type}[Inhabited α](k:Nat)(i:∀w,(isAgg 147).run Tryz.prog w=.ok true w)(j:∀w,(Go.sizeOf 147).run Tryz.prog w=.ok k w)(enc:α->List Value)(l:∀x,(enc x).length=k)(h1:∀x,∀v∈enc x,v.oneCell'=true)(f:α->α->Int)(m:SWO (ltOf f))(g:Nat)(cb:Array Value)(a off cap:Nat)(d:Array α)(w:World)(o:∀args w,(callFunc g args).run Tryz.prog w=.ok (.enter g args) w)(b:CmpLays Tryz.prog g cb enc k f a off d.size w)(p:HoldsK enc k w a off d)(c:a<w.heap.size)(h:d.size<4611686018427387904):
  Calls Tryz.prog 142 #[.slice (some ⟨a,off,none⟩) d.size cap,.func (.func g) #[] cb] w λe w' =>
   e=.returned (.tuple #[])/\∃d' n os,PermIn 0 d.size d d'/\SortedIn (ltOf f) 0 d.size d'/\w'=sortWorldK enc k w a off n d' os:=AnyQ.slices_SortFunc Tryz.laysSlF06_f142 k i j enc l h1 f m g cb a off cap d w o b p c h
open Go.RowKit Go.Lib Go.Sort in
def Tryz.slices_SortFunc_f151{α:Type}[Inhabited α](k:Nat)(i:∀w,(isAgg 149).run Tryz.prog w=.ok true w)(j:∀w,(Go.sizeOf 149).run Tryz.prog w=.ok k w)(enc:α->List Value)(l:∀x,(enc x).length=k)(h1:∀x,∀v∈enc x,v.oneCell'=true)(f:α->α->Int)(m:SWO (ltOf f))(g:Nat)(cb:Array Value)(a off cap:Nat)(d:Array α)(w:World)(o:∀args w,(callFunc g args).run Tryz.prog w=.ok (.enter g args) w)(b:CmpLays Tryz.prog g cb enc k f a off d.size w)(p:HoldsK enc k w a off d)(c:a<w.heap.size)(h:d.size<4611686018427387904):
  Calls Tryz.prog 151 #[.slice (some ⟨a,off,none⟩) d.size cap,.func (.func g) #[] cb] w λe w' =>
   e=.returned (.tuple #[])/\∃d' n os,PermIn 0 d.size d d'/\SortedIn (ltOf f) 0 d.size d'/\w'=sortWorldK enc k w a off n d' os:=AnyQ.slices_SortFunc Tryz.laysSlF06_f151 k i j enc l h1 f m g cb a off cap d w o b p c h
open Go.RowKit Go.Lib Go.Sort in
def Tryz.slices_SortFunc_f278{α:Type}[Inhabited α](k:Nat)(i:∀w,(isAgg 136).run Tryz.prog w=.ok true w)(j:∀w,(Go.sizeOf 136).run Tryz.prog w=.ok k w)(enc:α->List Value)(l:∀x,(enc x).length=k)(h1:∀x,∀v∈enc x,v.oneCell'=true)(f:α->α->Int)(m:SWO (ltOf f))(g:Nat)(cb:Array Value)(a off cap:Nat)(d:Array α)(w:World)(o:∀args w,(callFunc g args).run Tryz.prog w=.ok (.enter g args) w)(b:CmpLays Tryz.prog g cb enc k f a off d.size w)(p:HoldsK enc k w a off d)(c:a<w.heap.size)(h:d.size<4611686018427387904):
  Calls Tryz.prog 278 #[.slice (some ⟨a,off,none⟩) d.size cap,.func (.func g) #[] cb] w λe w' =>
   e=.returned (.tuple #[])/\∃d' n os,PermIn 0 d.size d d'/\SortedIn (ltOf f) 0 d.size d'/\w'=sortWorldK enc k w a off n d' os:=AnyQ.slices_SortFunc Tryz.laysSlF06_f278 k i j enc l h1 f m g cb a off cap d w o b p c h
open Go.RowKit Go.Lib Go.Sort in
def Tryz.slices_SortFunc_none_f142{α:Type}[Inhabited α](p:Option Addr)(cap:Nat)(a:Value)(w:World):
  Calls Tryz.prog 142 #[.slice p 0 cap,a] w λe w'=>e=.returned (.tuple #[])/\w'=w:=AnyF.slices_SortFunc_none Tryz.laysSlF06_f142 p cap a w
open Go.RowKit Go.Lib Go.Sort in
def Tryz.slices_SortFunc_none_f151{α:Type}[Inhabited α](p:Option Addr)(cap:Nat)(a:Value)(w:World):
  Calls Tryz.prog 151 #[.slice p 0 cap,a] w λe w'=>e=.returned (.tuple #[])/\w'=w:=AnyF.slices_SortFunc_none Tryz.laysSlF06_f151 p cap a w
open Go.RowKit Go.Lib Go.Sort in
def Tryz.slices_SortFunc_none_f278{α:Type}[Inhabited α](p:Option Addr)(cap:Nat)(a:Value)(w:World):
  Calls Tryz.prog 278 #[.slice p 0 cap,a] w λe w'=>e=.returned (.tuple #[])/\w'=w:=AnyF.slices_SortFunc_none Tryz.laysSlF06_f278 p cap a w
end Go.Proofs
end
section
namespace Go.Proofs
open Go.Shelf
def Tryz.growStr_ren:Go.Shelf.Ren:=⟨λ| 4=>356|n=>n,λ| 22=>45 | 25=>9 | 3=>3 | 4=>4 | 9=>9 | 20=>20 | 0=>0|n=>n,fun|n=>n⟩
def Tryz.growStr:Go.Proofs.Lays8.n4 Tryz.prog Tryz.growStr_ren:={
 mixed:=by kernel_rfl
 f4:=⟨Tryz.f356.name,by decide,Tryz.func356.trans (congrArg some (by kernel_rfl))⟩
 t0:=Tryz.underlying0
 a0:=Tryz.isAgg0
 z0:=Tryz.sizeOf0
 v0:=Tryz.zeroValue0
 t3:=Tryz.underlying3
 a3:=Tryz.isAgg3
 z3:=Tryz.sizeOf3
 v3:=Tryz.zeroValue3
 t4:=Tryz.underlying4
 a4:=Tryz.isAgg4
 z4:=Tryz.sizeOf4
 v4:=Tryz.zeroValue4
 t9:=Tryz.underlying9
 a9:=Tryz.isAgg9
 z9:=Tryz.sizeOf9
 v9:=Tryz.zeroValue9
 t20:=Tryz.underlying20
 a20:=Tryz.isAgg20
 z20:=Tryz.sizeOf20
 v20:=Tryz.zeroValue20
 t22:=Tryz.underlying45
 a22:=Tryz.isAgg45
 z22:=Tryz.sizeOf45
 v22:=Tryz.zeroValue45 }
def Tryz.growByte_ren:Go.Shelf.Ren:=⟨λ| 4=>312|n=>n,λ| 22=>32 | 25=>5 | 3=>3 | 4=>4 | 9=>9 | 20=>20 | 0=>0|n=>n,fun|n=>n⟩
def Tryz.growByte:Go.Proofs.Lays8.n4 Tryz.prog Tryz.growByte_ren:={
 mixed:=by kernel_rfl
 f4:=⟨Tryz.f312.name,by decide,Tryz.func312.trans (congrArg some (by kernel_rfl))⟩
 t0:=Tryz.underlying0
 a0:=Tryz.isAgg0
 z0:=Tryz.sizeOf0
 v0:=Tryz.zeroValue0
 t3:=Tryz.underlying3
 a3:=Tryz.isAgg3
 z3:=Tryz.sizeOf3
 v3:=Tryz.zeroValue3
 t4:=Tryz.underlying4
 a4:=Tryz.isAgg4
 z4:=Tryz.sizeOf4
 v4:=Tryz.zeroValue4
 t9:=Tryz.underlying9
 a9:=Tryz.isAgg9
 z9:=Tryz.sizeOf9
 v9:=Tryz.zeroValue9
 t20:=Tryz.underlying20
 a20:=Tryz.isAgg20
 z20:=Tryz.sizeOf20
 v20:=Tryz.zeroValue20
 t22:=Tryz.underlying32
 a22:=Tryz.isAgg32
 z22:=Tryz.sizeOf32
 v22:=Tryz.zeroValue32 }
end Go.Proofs
end
section
namespace Go.Dm
open Go Go.Lib Go.Proofs Go.RowKit Go.Shelf
section
structure DelL (P:Program) (ρ:Ren):Prop where
 mixed:P.follows .mixedOrders=true
 f45:Bears P (ρ.f 45) (SlBodyN.n45 ρ)
 t0:P.underlying (ρ.t 0)=some (TypeDesc.tuple #[])
 a0:∀w,(isAgg (ρ.t 0)).run P w=.ok false w
 z0:∀w,(Go.sizeOf (ρ.t 0)).run P w=.ok 1 w
 v0:∀w,(zeroValue (ρ.t 0)).run P w=.ok (Value.tuple #[]) w
 t3:P.underlying (ρ.t 3)=some (TypeDesc.int IntKind.i64)
 a3:∀w,(isAgg (ρ.t 3)).run P w=.ok false w
 z3:∀w,(Go.sizeOf (ρ.t 3)).run P w=.ok 1 w
 v3:∀w,(zeroValue (ρ.t 3)).run P w=.ok (Value.int IntKind.i64 0) w
 t4:P.underlying (ρ.t 4)=some (TypeDesc.bool)
 a4:∀w,(isAgg (ρ.t 4)).run P w=.ok false w
 z4:∀w,(Go.sizeOf (ρ.t 4)).run P w=.ok 1 w
 v4:∀w,(zeroValue (ρ.t 4)).run P w=.ok (Value.bool false) w
 t22:P.underlying (ρ.t 22)=some (TypeDesc.slice (ρ.t 23))
 a22:∀w,(isAgg (ρ.t 22)).run P w=.ok false w
 z22:∀w,(Go.sizeOf (ρ.t 22)).run P w=.ok 1 w
 v22:∀w,(zeroValue (ρ.t 22)).run P w=.ok (Value.slice none 0 0) w
variable {P:Program}{ρ:Ren}
theorem zEJ(w:World)(t e ty:TypeId)(i0:TypeInfo)(z:Value)(p:P.underlying t=some (.slice e))(d:P.info? e=some i0)(f:i0.zero=some z)(k b o n c:Nat)(g:z.cells.size=k)(q:0<n)
  (h1:∀v∈(Builtin.zeroCells z.cells n).toList,v.oneCell'=true)
  (h:∀j,j<n*k->(w.cell? ⟨b,o+j,none⟩).isSome=true)(i:∀j,j<n*k->w.frozen? ⟨b,o+j,none⟩=false):
  (Builtin.clear_ #[t] ty #[.slice (some ⟨b,o,none⟩) n c]).run P w=.ok (.tuple #[]) (w.setCells b o (Builtin.zeroCells z.cells n).toList):=by
 have a:(Builtin.zeroCells z.cells n).toList.length=n*k:=by grind [size_zeroCells]
 have l:=run_storeCells_cells (P:=P) b o (Builtin.zeroCells z.cells n).toList 0 w (by rw[a];simpa using h) (by rw[a];simpa using i) h1;obtain⟨m,rfl⟩:∃m,n=m+1:=⟨n-1,qd⟩
 simp_all[Builtin.clear_,run_underlying,zeroValue,typeInfo]
set_option maxHeartbeats 4000000 in
theorem zOZ(L:DelL P ρ)(i0:TypeInfo)(p:P.info? (ρ.t 23)=some i0)(z:Value)(D:i0.zero=some z)(k:Nat)(R:i0.size=k)(V:0<k)(E:z.cells.size=k)(b off n c i j:Nat)(cs:Bb)(w:World)(W:i<j)(X:j<=n)(Y:n<=c)(S:c<=9223372036854775807)
  (J:cs.length=n*k)(q:∀t v,cs[t]?=some v->w.cell? ⟨b,off+t,none⟩=some v)(r:∀t,t<n*k->w.frozen? ⟨b,off+t,none⟩=false)(K:∀v∈cs,v.oneCell'=true)(F:∀m,∀v∈(Builtin.zeroCells z.cells m).toList,v.oneCell'=true):
  Calls P (ρ.f 45) #[.slice (some ⟨b,off,none⟩) n c,.int .i64 i,.int .i64 j] w λe w' =>
   e=.returned (.slice (some ⟨b,off,none⟩) (i+(n-j)) c)/\w'=(w.drew.setCells b (off+i*k) (cs.drop (j*k))).setCells b (off+(i+(n-j))*k) (Builtin.zeroCells z.cells (n-(i+(n-j)))).toList:=by
 have x:=L.mixed;have t0:=L.t0;have Z:=L.a0;have z0:=L.z0;have v0:=L.v0;have t3:=L.t3;have a3:=L.a3;have z3:=L.z3;have v3:=L.v3;have t4:=L.t4;have a4:=L.a4;have z4:=L.z4;have v4:=L.v4;have t22:=L.t22;have M:=L.a22;have N:=L.z22;have O:=L.v22;have z23:∀w,(Go.sizeOf (ρ.t 23)).run P w=.ok k w:=λw=>by simp[Go.sizeOf,typeInfo,p,R]
 have d:∀t,t<n*k->(w.cell? ⟨b,off+t,none⟩).isSome=true:=λt C=>by rw[q t _ (ay qd)];rfl
 obtain⟨news,a⟩:∃news,news=cs.drop (j*k):=⟨_,rfl⟩;have g:news.length=(n-j)*k:=by rw[a,fh,J,Nat.sub_mul]
 have m1:i*k+k<=j*k:=by have:=gr k (show i+1<=j by omega);rw[ez,iy] at this;exact this
 have m2:j*k<=n*k:=gr _ X;have m3:(n-j)*k=n*k-j*k:=Nat.sub_mul _ _ _;have m4:(i+(n-j))*k=i*k+(n-j)*k:=ez _ _ _;have m5:(n-(i+(n-j)))*k=n*k-(i+(n-j))*k:=Nat.sub_mul _ _ _;obtain⟨A,hA,G⟩:∃A:Addr,(if c=j then some (⟨b,off,none⟩:Addr) else some ⟨b,off+j*k,none⟩)=some A/\Hid (∀t u,news[t]?=some u->w.drew.cell? (A.add t)=some u):=by
  by_cases h:c=j
  .refine⟨⟨b,off,none⟩,by simp[h],λt u y=>?_⟩
   have h0:news.length=0:=by rw[g,show n-j=0 by omega,me]
   rw[j8.1 h0] at y;simp at y
  .refine⟨⟨b,off+j*k,none⟩,by simp[h],λt u y=>?_⟩
   rw[Addr.add_lit,ig];rw[a,gu] at y;exact q _ _ y
 have s1:Hid (news.length=(n-j)*k):=g;have s2:Hid (∀u∈news,u.oneCell'=true):=λu y=>K u (mf (a▸y));have s3:Hid (∀t,t<news.length->(w.drew.cell? ⟨b,off+i*k+t,none⟩).isSome=true/\w.drew.frozen? ⟨b,off+i*k+t,none⟩=false):=λt C=>by
  rw[g] at C;rw[ig];exact⟨d _ qd,r _ qd⟩
 obtain ⟨B,l⟩:∃B,B=w.drew.setCells b (off+i*k) news:=⟨_,rfl⟩;have o:∀t,t<n*k->(B.cell? ⟨b,off+t,none⟩).isSome=true:=λt C=>by
  rw[l];exact isSome_setCells b _ _ _ (λs hs=>by rw[g] at hs;rw[ig];exact d _ qd) _ (d t C)
 have H:∀Q,(Builtin.clear_ #[ρ.t 22] Q #[.slice (some ⟨b,off+(i+(n-j))*k,none⟩) (n-(i+(n-j))) (c-(i+(n-j)))]).run P B=.ok (.tuple #[]) (B.setCells b (off+(i+(n-j))*k) (Builtin.zeroCells z.cells (n-(i+(n-j)))).toList):=λQ =>
  zEJ B _ _ Q i0 z t22 p D k b (off+(i+(n-j))*k) _ _ E qd (F _) (λt C=>by rw[ig];exact o _ qd) (λt C=>by rw[l,World.frozen?_setCells,ig];exact r _ qd)
 have T:Hid (B=w.drew.setCells b (off+i*k) news):=l;have hic:i<=c:=qd
 have hjc:j<=c:=qd
 rw[<- a];obtain⟨U,I⟩:∃U,U=(Builtin.zeroCells z.cells (n-(i+(n-j)))).toList:=⟨_,rfl⟩;rw[<- I] at H ⊢;clear I F D E;clear l o a g d q r m1 m2 m3 m4 m5;obtain⟨_,_,FG⟩:=L.f45
 go_enter FG,SlBodyN.n45_ntmps ρ
 go_wp2_with fail
 go_region_law_o (refine step_append_room rfl (.tmp 22) (.tmp 25) (ρ.t 22) rfl (ρ.t 23) i0 k t22 p R b off i c (by simp[Act.eval,Act.put]) A (n-j) (c-j) news (by simp[Act.eval,Act.put]) s1.out G.out s2.out qd s3.out ?_;rw[<- T.out])
 go_wp2
 go_ret
 exact⟨rfl,by rw[T.out]⟩
theorem NU{P:Program}{T:Tab}(hT:bQ P T){ρ:Ren}(L:DelL P ρ)(hen:∀(vals:Bb) (w:World),(callFunc (ρ.f 45) vals.toArray).run P w=.ok (.enter (ρ.f 45) vals.toArray) w)
  {k:Nat}(hk:(T (ρ.t 23)).size=k)(hk1:1<k){h:aF}{id n i:Nat}{es:Bc}(hid:h[id]?=some (.arr k es false))(hn:es.length=n)(hin:i<n):
  aA P (ρ.f 45) [.c (.own id 0 n),.c (.p (.i .i64 i)),.c (.p (.i .i64 (i+1)))] h λd h'=>d=.c (.own h.length 0 (n-1))/\h'=h.set id .dead++[.arr k (es.take i++es.drop (i+1)) false]:=by
 intro X vals K hi gd A;subst K;obtain⟨v1,rfl,hv1⟩:∃v1,vals=[v1,.int .i64 i,.int .i64 (i+1)]/\bH X (.c (.own id 0 n)) v1:=by
  match vals,A with
  | [v1,v2,v3],A =>
   obtain⟨h1,M,h3,_⟩:=A;have M:v2=.int .i64 i:=M;have h3:v3=.int .i64 (i+1):=h3;simp_all
  | [],A=>exact A.elim
  | [_],A=>exact A.2.elim
  | [_,_],A=>exact A.2.2.elim
  | _::_::_::_::_,A=>exact A.2.2.2.elim
 refine .inl ⟨hen _ _,?_⟩;have hs0:(T (ρ.t 23)).size≠0:=qd
 obtain ⟨_,i0,z,t1,t2,t3,t4,t5,t6,t7,t8⟩:=cI hT (bO hT hs0);have hz:z.cells.size=k:=by
  grind [List.length_map]
 have Q:bV X.w X.S (T (ρ.t 23)).zero z.cells.toList:=kE t5;have h1z:∀m,∀v∈(Builtin.zeroCells z.cells m).toList,v.oneCell'=true:=λm v s=>by
  rw[oO] at s;obtain⟨l,hl,R⟩:=List.mem_flatten.1 s;rw[(lf.1 hl).2] at R;exact Q.oneCell v R
 have hlt:=aR hid;cases N:X.G id with
 | none =>
  rcases hi.blk id _ hid with hq|⟨g',_,_,_,hq,_⟩
  .rw[hq.2] at hn;simp at hn;omega
  .rw[N] at hq;cases hq
 | some g =>
  obtain⟨E,a,el,O,rfl,D,U,V,hsz,Y,hL⟩:=zCN hi hid hn N qd hv1;obtain⟨F,a1,a2,a3⟩:=(hL.take i).vals;obtain⟨cx,x1,x2,x3⟩:=((hL.drop i).take 1).vals;obtain⟨cb,b1,b2,b3⟩:=(hL.drop (i+1)).vals;have l1:(es.take i).length=i:=by rw[cr];omega
  have l2:((es.drop i).take 1).length=1:=by rw[cr,fh];omega
  have l3:(es.drop (i+1)).length=n-(i+1):=by rw[fh,hn]
  rw[l1] at a2;rw[l2,iy] at x2;rw[l3] at b2;have m1:(i+1)*k=i*k+k:=by rw[ez,iy]
  have m2:(n-(i+1))*k+(i+1)*k=n*k:=by rw[<- ez];congr 1;omega
  have m3:n*k<=E*k:=gr _ U;have hcs:∀(t:Nat) (v:Value),(F++cx++cb)[t]?=some v->X.w.cell? ⟨g.1,g.2+t,none⟩=some v:=λt v C=>by
   rw[gf] at C;rcases cc t F.length with h|h
   .rw[fu h] at C;exact a3 t v C
   .rw[gv h] at C;rcases cc (t-F.length) cx.length with M|M
    .rw[fu M] at C;have:=x3 _ v C;rw[<- this];congr 2;omega
    .rw[gv M] at C;have:=b3 _ v C;rw[<- this];congr 2;omega
  have hfz:O.1=O.2:=by rcases Y.2 with h|h;omega;exact h
  have H:∀t,t<n*k->(X.w.cell? ⟨g.1,g.2+t,none⟩).isSome=true:=λt C=>by
   simp only[World.cell?,D,gm,av,ax];rw[iz qd];rfl
  have I:(F++cx++cb).drop ((i+1)*k)=cb:=List.drop_left' (by rw[bo,a2,x2,m1]);have e1:i+(n-(i+1))=n-1:=qd
  have e2:n-(n-1)=1:=qd
  have hz1:(Builtin.zeroCells z.cells 1).toList=z.cells.toList:=by rw[oO];simp
  refine (zOZ L i0 t1 z t4 k (by rw[t2,hk]) qd hz g.1 g.2 n E i (i+1) (F++cx++cb) X.w qd qd U (by unfold maxLen at V;omega) (by rw[bo,bo,a2,x2,b2];omega) hcs
   (fun t _=>by simp only[World.frozen?,D];simp;omega) (λv s=>by
    rcases c9.1 s with s|s
    .rcases c9.1 s with s|s
     .exact a1.oneCell v s
     .exact x1.oneCell v s
    .exact b1.oneCell v s) h1z).mono ?_
  rintro e Z ⟨rfl,hw⟩;rw[I,e1,e2,hz1] at hw;have hzl:z.cells.toList.length=k:=by simpa using hz
  have m4:(n-1)*k=i*k+cb.length:=by rw[b2,<- ez,e1]
  have m5:(n-1)*k+k=n*k:=by rw[<- Nat.succ_mul];congr 1;omega
  obtain⟨⟨arr1,c1,c2⟩,c3,c4,c5,c6,c7,c8⟩:=fE cb (g.2+i*k) X.w.drew a D;obtain⟨⟨B,d1,d2⟩,d3,d4,d5,d6,d7,d8⟩:=fE z.cells.toList (g.2+(n-1)*k) _ arr1 c1;rw[<- hw] at d1 d3 d4 d5 d6 d7 d8;have hto:Touched X.w Z g.1:=⟨d5.trans c5,d6.trans c6,⟨d7.trans c7,by rw[d8,c8];exact mg _⟩,d4.trans c4,λb hb=>(d3 b hb).trans (c3 b hb),.inl ⟨a,el,O,B,el,O,D,d1,by rw[d2,c2]⟩⟩
  obtain⟨o,r⟩:∃o,o=es.take i++(es.drop (i+1)++[(T (ρ.t 23)).zero]):=⟨_,rfl⟩;have hlen:o.length=n:=by rw[r];simp only[bo,l1,l3,bw,da];omega
  have hsb:cX (.arr k es false) (.arr k o false):=⟨rfl,qd⟩
  have hst:=Step.put hi hid rfl rfl N hto hsb rfl;have J:=sK (w:=X.w.drew) (W:=Z) (bl:=g.1) (off:=g.2) (cb:=z.cells.toList) a2 (rfl:cb.length=cb.length) (.inr (by rw[<- m4];exact hw)) a3 (λt C=>H t qd);have hik:HInv (X.put Z id (.arr k o false)):=HInv.put hi hid rfl rfl N hto hsb rfl (by
   refine .inr ⟨g,B,el,O,N,d1,by rw[hlen,d2,c2];omega,by rw[d2,c2];exact Y,hD.of_vals (vs:=F++cb++z.cells.toList) (λy u=>?_) ?_ J⟩
   .have hek:∀y∈es,y.length=k:=λy u=>by
     obtain⟨j,hj⟩:=eh.1 u;exact(hL.at_ hj).1
    rw[r] at u;rcases c9.1 u with u|u
    .exact hek y (lg u)
    .rcases c9.1 u with u|u
     .exact hek y (mf u)
     .rw[ep.1 u,<- t6];exact hk
   .have hr3:bV X.w X.S o.flatten (F++cb++z.cells.toList):=by
     rw[r,gf,ni,ni];exact a1.append (b1.append (by simpa using Q))
    exact hr3.kept hst.kept)
  have hid2:(X.put Z id (.arr k o false)).h[id]?=some (.arr k o false):=by
   simp only[Ctx.put];rw[mh];simp[hlt]
  obtain ⟨k3,k4⟩:=QX (off:=0) (len:=n-1) hik hid2 N qd;have htk:(o.drop 0).take (n-1)=es.take i++es.drop (i+1):=by
   rw[j9,r,<- gf,ka];rw[bo,l1,l3];omega
  rw [htk] at k3 k4;have q:((X.put Z id (.arr k o false)).rebase id (g.1,g.2+0*k) k (es.take i++es.drop (i+1))).h=X.h.set id .dead++[.arr k (es.take i++es.drop (i+1)) false]:=by
   simp only[Ctx.rebase,Ctx.put,List.set_set]
  rw[e1];refine⟨_,rfl,_,_,rfl,k4,hst.trans hik k3,?_,rfl,q⟩;refine vC (x:=.own X.h.length 0 (n-1)) ⟨by rw[q];simp,rfl,λk' es' ro' K=>?_⟩
  rw[q] at K;rw[show X.h.length=(X.h.set id .dead).length by simp,kc] at K
  simp only[b0,DB.arr.injEq] at K;obtain⟨rfl,rfl,rfl⟩:=K;refine⟨by rw[bo,l1,l3];omega,?_⟩
  simp only[Ctx.rebase,Ctx.put,ff,az];exact⟨E,g.2,B,el,O,d1,rfl,.inr ql,qd,V,by rw[d2,c2];simpa using hsz⟩
end
end Go.Dm
end
section
namespace Go.Dm
open Go
def zLf{a:Bk}{k:Nat}{x:En}(h:a[k]?=some x):(fG a).set k [.s x.p,.i .i64 x.k,.b x.o,.i .i64 x.n.k,.i .i64 x.n.m,.f x.n.t,.sl 1 (bS x.n.d)]=fG a:=by
 obtain⟨c,rfl⟩:=bz.1 h;show (fG a).set k (En.cs a[k])=fG a
 unfold fG;rw[<- jn,kj]
section
variable {N:Bn}{q s:Ba}{d:Dr}{r r':Rm}{p:Int}{t:Bl}
theorem zBE(h:OkW d){n:Nm}(a:pT d.N q=some n):gA d q=(cB d n.l,0):=by
 obtain⟨b,e⟩:=fJ a;obtain⟨y,_,c,f⟩:=h.named b;have:=h.g.lo1 _ (rN c);unfold gA aW;rw[a];show (if n.l==0 then _ else _)=_
 rw[au qk]
end
section
section
variable {r:Rm}{d:Dr}
variable {k j:Nat}{n x:Nm}{N:Bn}
theorem zP0(h:Sim r d)(a:r.N[k]?=some n):pT d.N n.n=some n:=by
 have:=dr a;rw[h.N] at this;exact zP4 h.srt this
theorem zEQ(h:Sim r d)(a:r.N[k]?=some n):dS r n.n=(cB d n.l,0):=by
 rw[AE h.toSimW,zBE h.toOkW (zP0 h a)]
end
end
end Go.Dm
end
