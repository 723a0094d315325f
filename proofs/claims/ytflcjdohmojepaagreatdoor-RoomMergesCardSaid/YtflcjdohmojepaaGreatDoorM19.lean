/- Part 20 of the proof of roomMerges_card, set without needless blanks. No condition. -/
import Derived.Shelf.Small.Bits
import Derived.Shelf.Small.Wraps
import Derived.Shelf.Strconv.Itoa0
import Derived.Shelf.Strings.Search1
import Derived.Shelf.Strings.Search2
import Derived.Shelf.Strings.Search3
import Derived.Shelf.Strings.Count
import Derived.Shelf.LaysM
import Derived.Shelf.Strings.Shaped
import Derived.Shelf.Sort.Plain
import Derived.Shelf.Strings.LastIndex
import Derived.Shelf.Strings.Prefix
import Derived.Shelf.Strings.Split
import Derived.Shelf.Strings.SplitShaped
import Derived.Shelf.Unicode.DecodeSlow
import Derived.Shelf.Slices.Reverse
import Derived.Shelf.Slices.CompactS
import Derived.Ground.Names2Prog
import Derived.Shelf.Slices.SearchI
import Derived.Shelf.Slices.Cells
import Derived.Shelf.Slices.In.SortNone
import Derived.Shelf.Bytes.SlIndexAt
import Derived.Shelf.Bytes.Small
import Derived.Shelf.Bytes.IndexByte
import Derived.Test.YtflcjdohmojepaaGreatDoorM18
set_option linter.all false
set_option maxRecDepth 100000
set_option maxHeartbeats 16000000
section
namespace Go.Proofs
open Go.Shelf Tryz
theorem qF{α:Type}{p:Option α}{x y:α}(h:p=some x)(e:x=y:=by kernel_rfl):p=some y:=h.trans (congrArg some e)
def Tryz.lays106_ren:Go.Shelf.Ren:=⟨λ| 106=>73 | 213=>123 | 265=>177|n=>n,λ| 9=>9 | 3=>3|n=>n,fun|n=>n⟩
theorem Tryz.lays106:Go.Proofs.Lays.n106 Tryz.prog Tryz.lays106_ren:=⟨by kernel_rfl,qF func73,qF func123,qF func177,underlying3,isAgg3,sizeOf3,zeroValue3,underlying9,isAgg9,sizeOf9,zeroValue9⟩
open Go.RowKit in
theorem Tryz.strings_Compare(a b:ByteArray)(w:World):
  Calls Tryz.prog 73 #[.string a,.string b] w λe w'=>e=.returned (.int .i64 (Lib.compareBytes a.data.toList b.data.toList))/\w'=w:=Any.strings_Compare Tryz.lays106 a b w
def Tryz.lays137_ren:Go.Shelf.Ren:=⟨λ| 137=>142 | 217=>205 | 266=>255|n=>n,λ| 9=>9 | 5=>5 | 3=>3|n=>n,fun|n=>n⟩
theorem Tryz.lays137:Go.Proofs.Lays.n137 Tryz.prog Tryz.lays137_ren:=⟨by kernel_rfl,qF func142,qF func205,qF func255,underlying3,isAgg3,sizeOf3,zeroValue3,underlying5,isAgg5,sizeOf5,zeroValue5,underlying9,isAgg9,sizeOf9,zeroValue9⟩
open Go.RowKit in
theorem Tryz.strings_IndexByte(s:ByteArray)(c:Int)(w:World):
  Calls Tryz.prog 142 #[.string s,.int .u8 c] w λe w'=>e=.returned (.int .i64 (Lib.indexByte s.data.toList c.toNat.toUInt8))/\w'=w:=Any.strings_IndexByte Tryz.lays137 s c w
def Tryz.lays189_ren:Go.Shelf.Ren:=⟨λ| 189=>155 | 125=>122 | 257=>225 | 128=>175 | 129=>176 | 294=>266 | 295=>267 | 296=>268 | 297=>269 | 298=>270 | 299=>271 | 216=>272 | 300=>273 | 301=>274 | 328=>314 | 329=>233 | 330=>234 | 331=>315 | 332=>316 | 215=>262 | 343=>331|n=>n,λ| 28=>167 | 3=>3 | 46=>183 | 0=>0 | 51=>226 | 53=>148 | 4=>4 | 183=>220 | 182=>219 | 131=>165 | 5=>5 | 9=>9 | 218=>269 | 222=>273 | 228=>305 | 229=>267|n=>n,fun|n=>n⟩
theorem Tryz.lays189:Go.Proofs.Lays.n189 Tryz.prog Tryz.lays189_ren:=⟨by kernel_rfl,qF func122,qF func175,qF func176,qF func155,qF func262,qF func272,qF func225,qF func266,qF func267,qF func268,qF func269,qF func270,qF func271,qF func273,qF func274,qF func314,qF func233,qF func234,qF func315,qF func316,qF func331,underlying0,isAgg0,sizeOf0,zeroValue0,underlying3,isAgg3,sizeOf3,zeroValue3,underlying4,isAgg4,sizeOf4,zeroValue4,underlying5,isAgg5,sizeOf5,zeroValue5,underlying9,isAgg9,sizeOf9,zeroValue9,underlying167,isAgg167,sizeOf167,zeroValue167,underlying183,isAgg183,sizeOf183,zeroValue183,underlying226,isAgg226,sizeOf226,zeroValue226,underlying148,isAgg148,sizeOf148,zeroValue148,underlying165,isAgg165,sizeOf165,zeroValue165,underlying219,isAgg219,sizeOf219,zeroValue219,underlying220,isAgg220,sizeOf220,zeroValue220,underlying269,isAgg269,sizeOf269,zeroValue269,underlying273,isAgg273,sizeOf273,zeroValue273,underlying305,isAgg305,sizeOf305,zeroValue305,underlying267,isAgg267,sizeOf267,zeroValue267⟩
open Go.Sort Go.RowKit in
theorem Tryz.slices_Sort_int(blk off cap:Nat)(zs:List Int)(w:World)(hH:Holds (Value.int .i64) w blk off zs.toArray)(hblk:blk<w.heap.size)(hsz:zs.length<4611686018427387904):
  Calls Tryz.prog 155 #[.slice (some ⟨blk,off,none⟩) zs.length cap] w λe w' =>
   e=.returned (.tuple #[])/\∃n os,w'=grow (putRow (Value.int .i64) (Sort.ahead w n) blk off (zs.mergeSort λx y=>decide (x<=y)).toArray) os:=Any.slices_Sort_int Tryz.lays189 blk off cap zs w hH hblk hsz
def Tryz.lays190_ren:Go.Shelf.Ren:=⟨λ| 190=>159 | 125=>122 | 258=>226 | 128=>175 | 129=>176 | 302=>275 | 303=>276 | 304=>277 | 305=>278 | 306=>279 | 307=>280 | 308=>281 | 309=>282 | 310=>283 | 333=>317 | 329=>233 | 330=>234 | 334=>318 | 335=>319 | 336=>261 | 344=>332|n=>n,λ| 31=>63 | 9=>9 | 3=>3 | 46=>183 | 0=>0 | 51=>226 | 53=>148 | 4=>4 | 183=>220 | 182=>219 | 131=>165 | 5=>5 | 218=>269 | 222=>273 | 228=>305 | 229=>267|n=>n,fun|n=>n⟩
theorem Tryz.lays190:Go.Proofs.Lays.n190 Tryz.prog Tryz.lays190_ren:=⟨by kernel_rfl,qF func122,qF func175,qF func176,qF func159,qF func226,qF func275,qF func276,qF func277,qF func278,qF func279,qF func280,qF func281,qF func282,qF func283,qF func233,qF func234,qF func317,qF func318,qF func319,qF func261,qF func332,underlying0,isAgg0,sizeOf0,zeroValue0,underlying3,isAgg3,sizeOf3,zeroValue3,underlying4,isAgg4,sizeOf4,zeroValue4,underlying5,isAgg5,sizeOf5,zeroValue5,underlying9,isAgg9,sizeOf9,zeroValue9,underlying63,isAgg63,sizeOf63,zeroValue63,underlying183,isAgg183,sizeOf183,zeroValue183,underlying226,isAgg226,sizeOf226,zeroValue226,underlying148,isAgg148,sizeOf148,zeroValue148,underlying165,isAgg165,sizeOf165,zeroValue165,underlying219,isAgg219,sizeOf219,zeroValue219,underlying220,isAgg220,sizeOf220,zeroValue220,underlying269,isAgg269,sizeOf269,zeroValue269,underlying273,isAgg273,sizeOf273,zeroValue273,underlying305,isAgg305,sizeOf305,zeroValue305,underlying267,isAgg267,sizeOf267,zeroValue267⟩
open Go.Sort Go.RowKit in
theorem Tryz.slices_Sort_string(blk off cap:Nat)(ss:List (List UInt8))(w:World)(hH:Holds encStr w blk off ss.toArray)(hblk:blk<w.heap.size)(hsz:ss.length<4611686018427387904):
  Calls Tryz.prog 159 #[.slice (some ⟨blk,off,none⟩) ss.length cap] w λe w' =>
   e=.returned (.tuple #[])/\∃n os,w'=grow (putRow encStr (Sort.ahead w n) blk off (ss.mergeSort λx y=>decide (x<=y)).toArray) os:=Any.slices_Sort_string Tryz.lays190 blk off cap ss w hH hblk hsz
def Tryz.lays149_ren:Go.Shelf.Ren:=⟨λ| 149=>166 | 222=>231|n=>n,λ| 9=>9 | 5=>5 | 3=>3 | 4=>4|n=>n,fun|n=>n⟩
theorem Tryz.lays149:Go.Proofs.Lays.n149 Tryz.prog Tryz.lays149_ren:=⟨by kernel_rfl,qF func166,qF func231,underlying3,isAgg3,sizeOf3,zeroValue3,underlying4,isAgg4,sizeOf4,zeroValue4,underlying5,isAgg5,sizeOf5,zeroValue5,underlying9,isAgg9,sizeOf9,zeroValue9⟩
open Go.RowKit Go.Lib in
theorem Tryz.strings_LastIndexByte(s:ByteArray)(c:Int)(hs:s.size<4611686018427387904)(w:World):
  Calls Tryz.prog 166 #[.string s,.int .u8 c] w λe w'=>e=.returned (.int .i64 (Lib.lastIndexByte s c))/\w'=w:=Any.strings_LastIndexByte Tryz.lays149 s c hs w
def Tryz.lays99_ren:Go.Shelf.Ren:=⟨λ| 99=>228 | 206=>284|n=>n,λ| 9=>9 | 4=>4 | 3=>3|n=>n,fun|n=>n⟩
theorem Tryz.lays99:Go.Proofs.Lays.n99 Tryz.prog Tryz.lays99_ren:=⟨by kernel_rfl,qF func228,qF func284,underlying3,isAgg3,sizeOf3,zeroValue3,underlying4,isAgg4,sizeOf4,zeroValue4,underlying9,isAgg9,sizeOf9,zeroValue9⟩
open Go.RowKit Go.Lib in
theorem Tryz.strings_HasPrefix(s p:ByteArray)(w:World):
  Calls Tryz.prog 228 #[.string s,.string p] w λe w'=>e=.returned (.bool (Lib.hasPrefix s.data.toList p.data.toList))/\w'=w:=Any.strings_HasPrefix Tryz.lays99 s p w
def Tryz.lays146_ren:Go.Shelf.Ren:=⟨λ| 146=>202 | 221=>253 | 268=>302 | 138=>303 | 143=>304 | 195=>324 | 197=>325 | 218=>326 | 219=>327 | 260=>334 | 217=>205 | 225=>335 | 224=>336 | 267=>337 | 266=>255 | 314=>340|n=>n,λ| 9=>9 | 31=>63 | 3=>3 | 4=>4 | 0=>0 | 105=>329 | 21=>21 | 5=>5 | 46=>183 | 119=>338 | 139=>341 | 138=>340 | 146=>342 | 51=>226|n=>n,λ| 1=>1 | 3=>2 | 4=>3|n=>n⟩
theorem Tryz.lays146:Go.Proofs.Lays.n146 Tryz.prog Tryz.lays146_ren:=⟨by kernel_rfl,qF func303,qF func304,qF func202,qF func324,qF func325,qF func205,qF func326,qF func327,qF func253,qF func336,qF func335,qF func334,qF func255,qF func337,qF func302,qF func340,underlying0,isAgg0,sizeOf0,zeroValue0,underlying3,isAgg3,sizeOf3,zeroValue3,underlying4,isAgg4,sizeOf4,zeroValue4,underlying5,isAgg5,sizeOf5,zeroValue5,underlying9,isAgg9,sizeOf9,zeroValue9,underlying21,isAgg21,sizeOf21,zeroValue21,underlying63,isAgg63,sizeOf63,zeroValue63,underlying183,isAgg183,sizeOf183,zeroValue183,underlying226,isAgg226,sizeOf226,zeroValue226,underlying329,isAgg329,sizeOf329,zeroValue329,underlying338,isAgg338,sizeOf338,underlying340,isAgg340,sizeOf340,zeroValue340,underlying341,isAgg341,sizeOf341,zeroValue341,underlying342,isAgg342,sizeOf342,zeroValue342,by kernel_rfl,by kernel_rfl,by kernel_rfl⟩
open Go.RowKit Go.Lib in
theorem Tryz.strings_Split(s sep:ByteArray)(m:Int)(w:World)(hs:s.size<4294967281)(hm:w.cell? ⟨1,0,none⟩=some (.int .i64 m))(h1:1<=sep.size):
  Calls Tryz.prog 202 #[.string s,.string sep] w λe w' =>
   e=.returned (.slice (some ⟨w.heap.size,0,none⟩) (Lib.countB s sep+1) (Lib.countB s sep+1))/\w'=w.alloc (.cells ((Lib.splitB sep 0 (Lib.countB s sep) s).map Value.string).toArray 9):=Any.strings_Split Tryz.lays146 (by kernel_rfl) s sep m w hs hm h1
def Tryz.laysM146_ren:Go.Shelf.Ren:=⟨λ| 146=>202 | 221=>253 | 268=>302 | 138=>303 | 143=>304 | 195=>324 | 197=>325 | 218=>326 | 219=>327 | 260=>334 | 217=>205 | 225=>335 | 224=>336 | 267=>337 | 266=>255 | 314=>340|n=>n,λ| 9=>9 | 31=>63 | 3=>3 | 4=>4 | 0=>0 | 105=>329 | 21=>21 | 5=>5 | 46=>183 | 119=>338 | 139=>341 | 138=>340 | 146=>342 | 51=>226|n=>n,λ| 1=>1 | 3=>2 | 4=>3|n=>n⟩
theorem Tryz.laysM146:Go.Proofs.LaysM.n146 Tryz.prog Tryz.laysM146_ren:={mixed:=by kernel_rfl,f138:=qF func303,f143:=qF func304,f146:=qF func202,f195:=qF func324,f197:=qF func325,f217:=qF func205,f218:=qF func326,f219:=qF func327,f221:=qF func253,f224:=qF func336,f225:=qF func335,f260:=qF func334,f266:=qF func255,f267:=qF func337,f268:=qF func302,f314:=qF func340,t0:=underlying0,a0:=isAgg0,z0:=sizeOf0,v0:=zeroValue0,t3:=underlying3,a3:=isAgg3,z3:=sizeOf3,v3:=zeroValue3,t4:=underlying4,a4:=isAgg4,z4:=sizeOf4,v4:=zeroValue4,t5:=underlying5,a5:=isAgg5,z5:=sizeOf5,v5:=zeroValue5,t9:=underlying9,a9:=isAgg9,z9:=sizeOf9,v9:=zeroValue9,t21:=underlying21,a21:=isAgg21,z21:=sizeOf21,v21:=zeroValue21,t31:=underlying63,a31:=isAgg63,z31:=sizeOf63,v31:=zeroValue63,t46:=underlying183,a46:=isAgg183,z46:=sizeOf183,v46:=zeroValue183,t51:=underlying226,a51:=isAgg226,z51:=sizeOf226,v51:=zeroValue226,t105:=underlying329,a105:=isAgg329,z105:=sizeOf329,v105:=zeroValue329,t119:=underlying338,a119:=isAgg338,z119:=sizeOf338,t138:=underlying340,a138:=isAgg340,z138:=sizeOf340,v138:=zeroValue340,t139:=underlying341,a139:=isAgg341,z139:=sizeOf341,v139:=zeroValue341,t146:=underlying342,a146:=isAgg342,z146:=sizeOf342,v146:=zeroValue342,g1:=by kernel_rfl,g3:=by kernel_rfl,g4:=by kernel_rfl,i0:=by kernel_rfl,i3:=by kernel_rfl,i4:=by kernel_rfl,i5:=by kernel_rfl,i9:=by kernel_rfl,i21:=by kernel_rfl,i31:=by kernel_rfl,i46:=by kernel_rfl,i51:=by kernel_rfl,i105:=by kernel_rfl,i138:=by kernel_rfl,i139:=by kernel_rfl,i146:=by kernel_rfl,m1:=by kernel_rfl,s1_3:=λw h=>Go.Proofs.cell_of_shapedOpen_int (zero:=#[.int .i64 0]) (t:=3) h (of_decide_eq_true (by kernel_rfl)) (by kernel_rfl) rfl (by kernel_rfl) (by kernel_rfl) underlying3,m3:=by kernel_rfl,m4:=by kernel_rfl}
def Tryz.lays194_ren:Go.Shelf.Ren:=⟨λ| 194=>210|n=>n,λ| 31=>63 | 9=>9 | 3=>3 | 4=>4 | 0=>0|n=>n,fun|n=>n⟩
theorem Tryz.lays194:Go.Proofs.Lays.n194 Tryz.prog Tryz.lays194_ren:=⟨by kernel_rfl,qF func210,underlying0,isAgg0,sizeOf0,zeroValue0,underlying3,isAgg3,sizeOf3,zeroValue3,underlying4,isAgg4,sizeOf4,zeroValue4,underlying9,isAgg9,sizeOf9,zeroValue9,underlying63,isAgg63,sizeOf63,zeroValue63⟩
open Go.RowKit Go.Lib Go.Sort in
theorem Tryz.slices_Compact_string(blk off cap:Nat)(zs:List (List UInt8))(w:World)(hH:Holds encStr w blk off zs.toArray)(hsz:zs.length<=9223372036854775807)(hcap:zs.length<=cap):
  Calls Tryz.prog 210 #[.slice (some ⟨blk,off,none⟩) zs.length cap] w λe w'=>e=.returned (.slice (some ⟨blk,off,none⟩) (Lib.compact zs).length cap)/\∃q,w'=putRow encStr (Sort.ahead w q) blk off (Lib.compact zs++List.replicate (zs.length-(Lib.compact zs).length) []).toArray:=Any.slices_Compact_string Tryz.lays194 blk off cap zs w hH hsz hcap
open Go.RowKit Go.Lib Go.Sort in
theorem Tryz.slices_Compact_string_empty(a:Option Addr)(cap:Nat)(w:World):
  Calls Tryz.prog 210 #[.slice a 0 cap] w λe w'=>e=.returned (.slice a 0 cap)/\w'=w:=Any.slices_Compact_string_empty Tryz.lays194 a cap w
open Go.RowKit Go.Sort in
theorem Tryz.slices_Sort_string_none(p:Option Addr)(cap:Nat)(w:World):
  Calls Tryz.prog 159 #[.slice p 0 cap] w λe w'=>e=.returned (.tuple #[])/\w'=w:=Any.slices_Sort_string_none Tryz.lays190 p cap w
open Go.RowKit Go.Sort in
theorem Tryz.slices_Sort_int_none(p:Option Addr)(cap:Nat)(w:World):
  Calls Tryz.prog 155 #[.slice p 0 cap] w λe w'=>e=.returned (.tuple #[])/\w'=w:=Any.slices_Sort_int_none Tryz.lays189 p cap w
def Tryz.lays187_ren:Go.Shelf.Ren:=⟨λ| 187=>240 | 255=>289|n=>n,λ| 37=>60 | 5=>5 | 3=>3|n=>n,fun|n=>n⟩
theorem Tryz.lays187:Go.Proofs.Lays.n187 Tryz.prog Tryz.lays187_ren:=⟨by kernel_rfl,qF func240,qF func289,underlying3,isAgg3,sizeOf3,zeroValue3,underlying5,isAgg5,sizeOf5,zeroValue5,underlying60,isAgg60,sizeOf60,zeroValue60⟩
open Go.RowKit Go.Lib in
theorem Tryz.bytes_IndexByte_at(a:Addr)(n c:Nat)(xs:List Int)(cv:Int)(w:World)(hx:xs.length=n)(hc:∀i,i<n->w.cell? (a.add i)=some (.int .u8 (xs.getD i 0))):
  Calls Tryz.prog 240 #[.slice (some a) n c,.int .u8 cv] w λe w'=>e=.returned (.int .i64 (Lib.indexByte (Lib.bytesOf xs) cv.toNat.toUInt8))/\w'=w:=Any.bytes_IndexByte_at Tryz.lays187 a n c xs cv w hx hc
end Go.Proofs
end
section
namespace Go.Proofs.YtflcjdohmojepaaGreatDoor
open Go Go.Dm Go.Proofs.Tryz
theorem sP{a:List UInt8}{c:Int}(ha:a.length<4611686018427387904):aA prog 142 [.c (.p (.s a)),.c (.p (.i .u8 c))] [] λr h=>r=.c (.p (.i .i64 (Lib.indexByte a c.toNat.toUInt8)))/\h=[] :=
 rX (N:=4611686018427387904) (g:=λa c=>Lib.indexByte a c.toNat.toUInt8) (enters Tryz.func142 rfl rfl) (λa c w _=>Tryz.strings_IndexByte ⟨a.toArray⟩ c w) ha
theorem zG6{a:List UInt8}(ha:a.length<4294967281):aA prog 202 [.c (.p (.s a)),.c (.p (.s [47]))] [] λr h=>r=.c (.p (.sl 1 (Go.Dm.encS (qW a))))/\h=[]:=by
 rw[<- zG7];exact PF (g1:=Tryz.laysM146_ren.g 1) (enters Tryz.func202 rfl rfl) (λw h=>Tryz.laysM146.s1_3 w h) (λs sep m w h1 h2 h3=>Tryz.strings_Split s sep m w h1 h2 h3) ha (by decide)
theorem oR{d:List UInt8}{c:Int}(hd:d≠[]):aA prog 240 [.c (.p (.sl 1 (bU d))),.c (.p (.i .u8 c))] [] λr h=>r=.c (.p (.i .i64 (Lib.indexByte d c.toNat.toUInt8)))/\h=[] :=
 AQ (g:=λa c=>Lib.indexByte a c.toNat.toUInt8) (enters Tryz.func240 rfl rfl) (λa n c xs cv w h1 h2=>Tryz.bytes_IndexByte_at a n c xs cv w h1 h2) hd
theorem sU{s:List UInt8}(hs:s.length<=1000000000):aA prog 99 [.c (.p (.s s))] [] λr h=>r=.c (.p (.b (aZ s)))/\h=[]:=by
 have e0:decide (Lib.indexByte s (Int.toNat 0).toUInt8<0)=s.all λb=>!(b==0):=indexByte_none 0 s;have e1:decide (Lib.indexByte s (Int.toNat 47).toUInt8<0)=s.all λb=>!(b==47):=indexByte_none 47 s;have e2:decide ((1:Int)<=s.length) = !(s == []):=by cases s<;>simp<;>omega
 have key:aZ s=(!(s == []) && decide ((s.length:Int)<=24) && (s.all λb=>!(b==0)) && (s.all λb=>!(b==47)) && !(s == [46]) && !(s == [46,46])):=by
  unfold aZ;rw[GQ,e2];cases (s == [])<;>cases decide ((s.length:Int)<=24)<;>cases (s.all λb=>!(b==0))<;>cases (s.all λb=>!(b==47))<;>cases (s == [46])<;>rfl
 rw[key];clear key e2;generalize (s.all λb=>!(b==0))=q0 at e0 ⊢;generalize (s.all λb=>!(b==47))=q1 at e1 ⊢;refine eT func99 λX0 hX=>?_;simp only[f99,go_sem]
 repeat' (first|exact⟨⟩|refine sp ?_|refine uF (sP (by omega)) ?_|refine aY (λ_=>?_) (λ_=>?_))
 all_goals first|(simp_all;done)|(simp_all;intros;omega)
theorem fT{p:List UInt8}(hp:p.length<=1000000000):aA prog 138 [.c (.p (.s p))] [] λr h=>r=.c (.p (.b (bW p)))/\h=[]:=by
 by_cases h0:p=[]
 .subst h0;refine eT func138 λX0 hX=>?_;simp only[Tryz.f138,go_sem]
  repeat' (first|exact⟨⟩|refine sp ?_)
  rfl
 .have q0:(p == [])=false:=by simpa using h0
  have hle:∀x∈qW p,x.length<=p.length:=λx hx=>by have:=yY p [] x hx;simpa using this
  have hln:(qW p).length<=p.length+1:=qV p [];refine eT func138 λX0 hX=>?_;simp only[Tryz.f138,go_sem]
  repeat' (first|exact⟨⟩|refine sp ?_|refine uN (zG6 (by omega)) ?_)
  have key:bW p=((qW p).all aZ && decide ((p.length:Int)<=120)):=by rw[bW,q0,Bool.false_or]
  generalize qW p=cs at *;refine aP aF aN (α:=Nat) (λk=>⟨21,[(0,.c (.p (.s p))),(8,.c (.p (.sl 1 (Go.Dm.encS cs)))),(9,.c (.p (.i .i64 cs.length))),(10,.c (.p (.i .i64 k)))],[]⟩)
   (λk=>k<=cs.length/\(cs.drop k).all aZ=cs.all aZ) (λk=>cs.length-k) 0 ⟨Nat.zero_le _,rfl⟩ (.inl (aB (by rw[hX];rfl) rfl rfl wkS)) ?_
  rintro k ⟨hk,hs⟩;by_cases hlt:k<cs.length
  .have hx:cs[k]?=some cs[k]:=List.getElem?_eq_getElem hlt;have hg:=Go.Dm.encS_at hx;have hdr:=drop_at hx;have h1:decide ((k:Int)<(cs.length:Int))=true:=decide_eq_true (by omega);have w1:IntKind.i64.wrap ((k:Int)+1)=k+1:=wrap_i64 (by omega) (by omega);have hxl:=hle _ (List.getElem_mem hlt);generalize cs[k]=x at hx hg hdr hxl;rw[hdr,List.all_cons] at hs;clear hdr hle;cases hb:aZ x
   .rw[hb,Bool.false_and] at hs;rw[key,<- hs];clear key hs
    repeat' (first|exact⟨⟩|refine sp ?_|refine uF (sU (by omega)) ?_|refine ai ?_)
   .rw[hb,Bool.true_and] at hs;have hs':k+1<=cs.length/\(cs.drop (k+1)).all aZ=cs.all aZ:=⟨by omega,hs⟩
    clear hs key
    repeat' (first|exact⟨⟩|refine sp ?_|refine uF (sU (by omega)) ?_|refine ai ?_)
    exact dE (k+1) hs' (by omega) (aB rfl rfl rfl wkS)
  .have h1:decide ((k:Int)<(cs.length:Int))=false:=decide_eq_false (by omega);rw[List.drop_of_length_le (by omega),List.all_nil] at hs;rw[key,<- hs,Bool.true_and];clear key hs hle
   repeat' (first|exact⟨⟩|refine sp ?_)
theorem zOt{k m:Int}{t:Nat}{d:List UInt8}:aA prog 204 [.agg (ndc k m t d)] [] λr h=>r=.c (.p (.b (zBt ⟨k,m,t,d⟩)))/\h=[]:=by
 have e0:decide (Lib.indexByte d (Int.toNat 0).toUInt8<0)=d.all λb=>!(b==0):=indexByte_none 0 d;by_cases hd:d=[]
 .subst hd;refine eT func204 λX0 hX=>?_;simp only[f204,go_sem]
  repeat' (first|exact⟨⟩|refine sp ?_|refine aH (λ_=>?_) (λ_=>?_))
  all_goals simp_all[zBt]
 .have h1:decide ((1:Int)<=(d.length:Int))=true:=by
   have:=List.length_pos_iff.2 hd;exact decide_eq_true (by omega)
  refine eT func204 λX0 hX=>?_;simp only[f204,go_sem];unfold zBt;generalize (d.all λb=>!(b==0))=q0 at e0 ⊢
  repeat' (first|exact⟨⟩|refine sp ?_|refine uF (oR hd) ?_|refine aH (λ_=>?_) (λ_=>?_)|refine aY (λ_=>?_) (λ_=>?_))
  all_goals first|(simp_all;done)|(simp_all;intros;omega)
theorem dZ{k m:Int}{t:Nat}{d:List UInt8}(ht:t<18446744073709551616):aA prog 139 [.agg (ndc k m t d)] [] λr h=>r=.c (.p (.b (aR ⟨k,m,t,d⟩)))/\h=[]:=by
 rw[<- jT (n:=⟨k,m,t,d⟩) ht];refine eT func139 λX0 hX=>?_;simp only[f139,go_sem]
 repeat' (first|exact⟨⟩|refine sp ?_|refine uF (zOt) ?_|((refine aG (id:=1) aF aN [] [0,1,2,3,4,5,6,7,8] (by decide +kernel) ?_);(repeat' (first|(refine aT ?_)|((refine bL ?_ rfl rfl ?_ ?_);(rotate_left 1);(focus ((repeat' (first|exact⟨⟩|refine sp ?_|refine uF (cX _) ?_|refine uF (AB _) ?_));exact rfl));(simp only[aC])))))|refine aY (λ_=>?_) (λ_=>?_))
 all_goals first|(simp_all[mV,CD];done)|(simp_all[mV];intros;omega)
theorem zJ8{x:Nat}:aA prog 131 [.c (.p (.f x))] [] λr h=>r=.c (.p (.b (CM x)))/\h=[]:=by
 refine eT func131 λX0 hX=>?_;simp only[f131,go_sem]
 repeat' (first|simp (maxSteps:=1000000) only[*,go_sem,Nat.reduceLT,Nat.reduceLeDiff,Nat.reduceEqDiff,↓reduceIte,Nat.reduceAdd,Int.reduceLE,Int.reduceSub,Int.reduceMul,Int.reduceNeg,Int.reduceToNat,Nat.reduceBEq,iX,VM,ZP,Nat.min_def,decide_true,decide_false,zEj,zAi]|((refine aG (id:=5) aF aN [] [0,1,2,3,4,5,6,7,8,9,10,11] (by decide +kernel) ?_);(repeat' (first|(refine aT ?_)|((refine bL ?_ rfl rfl ?_ ?_);(rotate_left 1);(focus ((repeat' (first|exact⟨⟩|refine sp ?_));exact rfl));(simp only[aC])))))|((with_reducible refine zRi aF aN func190 rfl rfl λ_ _=>?_);simp only[f190,go_sem])|((with_reducible refine zRi aF aN func247 rfl rfl λ_ _=>?_);simp only[f247,go_sem])|refine uF (AB _) ?_|refine uF (VY _) ?_|refine dM aF aN 9 ?_|refine ai ?_)
 all_goals rfl
theorem qH{k m:Int}{t:Nat}{d:List UInt8}(hd:d.length<=1000000000):aA prog 78 [.agg (ndc k m t d)] [] λr h=>r=.c (.p (.b (aR ⟨k,m,t,d⟩)))/\h=[]:=by
 refine eT func78 λX0 hX=>?_;simp only[f78,go_sem]
 repeat' (first|exact⟨⟩|refine sp ?_|refine uF (zJ8) ?_|refine uN (zHk hd) ?_|refine aH (λ_=>?_) (λ_=>?_)|refine aY (λ_=>?_) (λ_=>?_))
 all_goals simp only[aR, *,Bool.not_true,Bool.not_false,Bool.or_false,Bool.or_true,Bool.true_or,Bool.true_and,Bool.false_and,↓reduceIte,Bool.false_eq_true]
theorem SI{t:List It}{p:List UInt8}{k m:Int}{tt:Nat}{d:List UInt8}(ht:t.length<=1000000-1)(hp:p.length<=1000000000)(hq:∀x∈t,x.p.length<=9223372036854775807)(hd:d.length<=1000000000):
  aA prog 28 [.c (.p (.sl 5 (aS t))),.c (.p (.s p)),.agg (ndc k m tt d)] [] λr h =>
   r=.tup [.c (.p (.sl 5 (aS (mE t p ⟨k,m,tt,d⟩).1))),.c (.p (.i .i64 (mE t p ⟨k,m,tt,d⟩).2))]/\h=[]:=by
 have h1:=oG t p;have h2:=oL t p ⟨k,m,tt,d⟩;have h3:=oL (bG t p) p ⟨k,m,tt,d⟩;have hp2:p.length<=4611686018427387904:=by omega
 refine aV ?_;refine eT func28 λX0 hX=>?_;simp only[f28,go_sem]
 repeat' (first|exact⟨⟩|refine sp ?_|refine uF (uK hp) ?_|refine uF (qH hd) ?_|refine uF (KC hp2) ?_|refine uF (oA (t:=t) (by omega)) ?_|refine uN (CF (t:=t) (by omega) hp2 hq) ?_|refine uN (zA0 (t:=t) (by omega)) ?_|refine uN (zA0 (t:=bG t p) (by omega)) ?_|refine aH (λ_=>?_) (λ_=>?_)|refine aY (λ_=>?_) (λ_=>?_))
 all_goals simp only[mE, *,Bool.or_false,Bool.or_true,Bool.true_or,↓reduceIte,Bool.false_eq_true,gI]
 all_goals simp
theorem xG{n m:Int}(hm:0<m)(hm2:m<=9223372036854775807):aA prog 30 [.c (.p (.i .i64 n)),.c (.p (.i .i64 m))] [] λr h=>r=.c (.p (.i .i64 (n % m)))/\h=[]:=by
 refine eT func30 λX0 hX=>?_;simp only[f30,go_sem];have h0:=Int.emod_nonneg n (show m≠0 by omega)
 have h1:=Int.emod_lt_of_pos n hm
 repeat' (first|exact⟨⟩|refine sp ?_|refine aH (λ_=>?_) (λ_=>?_)|refine ai ?_)
 .rename_i h;rw[tmod_neg hm (of_decide_eq_true h),wrap_i64 (by omega) (by omega)]
 .rename_i h;rw[zKM hm (of_decide_eq_false h)]
theorem zLO{b:List UInt8}{n:Int}(hn:0<=n)(hn2:n<=140737488355328)(hb:b.length<=9223372036854775807):aA prog 34 [.c (.p (.sl 1 (bU b))),.c (.p (.i .i64 n))] [] λr h=>r=.c (.p (.sl 1 (bU (b.take n.toNat))))/\h=[]:=by
 refine eT func34 λX0 hX=>?_;simp only[f34,go_sem]
 repeat' (first|exact⟨⟩|refine sp ?_|((with_reducible refine And.intro ?_ ?_);((first|omega|decide))))
 by_cases h:n<(b.length:Int)
 .simp only[if_pos h,List.length_take];refine⟨by omega,by omega,?_⟩
  first|trivial|rfl
 .simp only[if_neg h,List.length_take];refine⟨by omega,by omega,?_⟩
  rw[List.take_of_length_le (by omega),List.take_of_length_le (by omega)]
theorem NI{n:Int}:aA prog 76 [.c (.p (.i .i64 n))] [] λr h=>r=.c (.p (.s (YA n)))/\h=[]:=by
 refine eT func76 λX0 hX=>?_;simp only[f76,go_sem]
 repeat' (first|exact⟨⟩|refine sp ?_|refine uF (xG (by omega) (by omega)) ?_|refine ai ?_)
 unfold YA;have h1:=Int.emod_nonneg n (show (6:Int)≠0 by decide)
 have h2:=Int.emod_lt_of_pos n (show (0:Int)<6 by decide)
 generalize n % 6=k at h1 h2;have:k=0∨k=1∨k=2∨k=3∨k=4∨k=5:=by omega
 rcases this with rfl|rfl|rfl|rfl|rfl|rfl<;>rfl
theorem ZR{n:Int}:aA prog 25 [.c (.p (.i .i64 n))] [] λr h=>r=.c (.p (.s (tE n)))/\h=[]:=by
 unfold tE;have h1:=Int.emod_nonneg n (show (1073741824:Int)≠0 by decide)
 have h2:=Int.emod_lt_of_pos n (show (0:Int)<1073741824 by decide)
 have e1:IntKind.i64.wrap ((n % 1073741824).tdiv 6)=n % 1073741824 / 6:=by rw[Int.tdiv_eq_ediv_of_nonneg h1];exact wrap_i64 (by omega) (by omega)
 have e2:(n % 1073741824 / 6).tmod 3=n % 1073741824 / 6 % 3:=Int.tmod_eq_emod_of_nonneg (by omega);have e3:IntKind.i64.wrap ((n % 1073741824).tdiv 7)=n % 1073741824 / 7:=by rw[Int.tdiv_eq_ediv_of_nonneg h1];exact wrap_i64 (by omega) (by omega)
 have e4:IntKind.i64.wrap ((n % 1073741824 / 7).tdiv 7)=n % 1073741824 / 7 / 7:=by rw[Int.tdiv_eq_ediv_of_nonneg (by omega)];exact wrap_i64 (by omega) (by omega)
 have l1:=pV (n % 1073741824);have l2:=pV (n % 1073741824 / 7);have l3:=pV (n % 1073741824 / 7 / 7);have hk:n % 1073741824 / 6 % 3=0∨n % 1073741824 / 6 % 3=1∨n % 1073741824 / 6 % 3=2:=by omega
 refine eT func25 λX0 hX=>?_;simp only[f25,go_sem];rcases hk with hk|hk|hk
 .repeat' (first|exact⟨⟩|refine sp ?_|refine uF (xG (by omega) (by omega)) ?_|refine uF (NI) ?_)
  refine dM aF aN 1 ?_
  repeat' (first|exact⟨⟩|refine sp ?_)
  simp only[SE]
 .repeat' (first|exact⟨⟩|refine sp ?_|refine uF (xG (by omega) (by omega)) ?_|refine uF (NI) ?_)
  refine dM aF aN 2 ?_
  repeat' (first|exact⟨⟩|refine sp ?_|refine uF (NI) ?_|refine ai ?_)
  all_goals simp[SE]
 .repeat' (first|exact⟨⟩|refine sp ?_|refine uF (xG (by omega) (by omega)) ?_|refine uF (NI) ?_)
  refine dM aF aN 3 ?_
  repeat' (first|exact⟨⟩|refine sp ?_|refine uF (NI) ?_|refine ai ?_)
  all_goals simp[SE]
theorem zDh{n:Int}{x:Nat}:aA prog 33 [.c (.p (.i .i64 n)),.c (.p (.f x))] [] λr h=>r=.c (.p (.f (ZH n x)))/\h=[]:=by
 refine eT func33 λX0 hX=>?_;simp only[f33,go_sem]
 repeat' (first|exact⟨⟩|refine sp ?_|refine uF (xG (by omega) (by omega)) ?_|refine uF (zBs) ?_|refine uF (zQA _) ?_|refine uF (zQj) ?_|refine uF (jY _ (by omega)) ?_|refine aH (λ_=>?_) (λ_=>?_)|((with_reducible refine And.intro ?_ ?_);((first|omega|(simp only[decide_eq_true_eq] at *;omega)))))
 .rename_i h;have h:=of_decide_eq_true h
  try refine⟨h,?_⟩
  unfold ZH;have h1:=Int.emod_nonneg n (show (15:Int)≠0 by decide)
  generalize n % 15=k at h h1;have:k=0∨k=1∨k=2∨k=3∨k=4∨k=5∨k=6∨k=7∨k=8∨k=9∨k=10∨k=11:=by omega
  rcases this with rfl|rfl|rfl|rfl|rfl|rfl|rfl|rfl|rfl|rfl|rfl|rfl<;>rfl
 .rename_i h;have h:=of_decide_eq_false h;unfold ZH;rw[if_neg h]
theorem zGf{k m t:Int}{x:Nat}{d:List UInt8}(hd:d.length<=9223372036854775807):aA prog 29 [.agg (rnc k m t x d)] [] λr h=>r=.agg (EX ⟨k,m,t,x,d⟩).cv/\h=[]:=by
 have hp:=mY m;have e0:=Int.emod_nonneg k (show (3:Int)≠0 by decide)
 have e1:=Int.emod_lt_of_pos k (show (0:Int)<3 by decide)
 have e2:IntKind.i64.wrap (1+k % 3)=1+k % 3:=wrap_i64 (by omega) (by omega);refine aV ?_;refine eT func29 λX0 hX=>?_;simp only[f29,go_sem]
 repeat' (first|exact⟨⟩|refine sp ?_|refine uF (ZR) ?_|refine uN (zLO (by omega) (by omega) hd) ?_|((refine aG (id:=1) aF aN [14,15] [14,0,1,2,3,4,5,6,7,8,9,10,11,12,13,15] (by decide +kernel) ?_);(repeat' (first|(refine aT ?_)|((refine cK ?_ ?_ rfl rfl rfl ?_ ?_);(rotate_left 2);(focus ((repeat' (first|exact⟨⟩|refine sp ?_));((refine And.intro ?_ ?_<;>exact rfl))));(simp only[aC,bH]))|((refine cJ ?_ rfl rfl rfl ?_ ?_);(rotate_left 1);(focus ((repeat' (first|exact bA|refine aW ?_ ?_));(all_goals ((repeat' (first|exact⟨⟩|refine sp ?_|refine uF (xG (by omega) (by omega)) ?_|refine uF (zDh) ?_|refine uF (sC _) ?_));(try (exact rfl))))));(simp only[aC])))))|refine aH (λ_=>?_) (λ_=>?_)|((with_reducible refine And.intro ?_ ?_);((first|omega|decide))))
 all_goals (simp_all[EX,zJW,zJF,jO,];try omega)
end Go.Proofs.YtflcjdohmojepaaGreatDoor
end
