/- Part 24 of the proof of roomStays_card, set without needless blanks. No condition. -/
import Derived.Shelf.Small.Bits
import Derived.Shelf.Small.Wraps
import Derived.Shelf.Strconv.Itoa0
import Derived.Shelf.Strings.Search1
import Derived.Shelf.Strings.Search2
import Derived.Shelf.Strings.Search3
import Derived.Shelf.Strings.Count
import Derived.Shelf.LaysM
import Derived.Shelf.Strings.Shaped
import Derived.Shelf.Sort.Plain
import Derived.Shelf.Strings.LastIndex
import Derived.Shelf.Strings.Prefix
import Derived.Shelf.Strings.Split
import Derived.Shelf.Strings.SplitShaped
import Derived.Shelf.Unicode.DecodeSlow
import Derived.Shelf.Slices.Reverse
import Derived.Shelf.Slices.CompactS
import Derived.Ground.Names2Prog
import Derived.Shelf.Slices.SearchI
import Derived.Shelf.Slices.Cells
import Derived.Shelf.Slices.In.SortNone
import Derived.Shelf.Bytes.SlIndexAt
import Derived.Shelf.Bytes.Small
import Derived.Shelf.Bytes.IndexByte
import Derived.Test.YtlbfnbldeefgmaaGreatDoorT22
import Derived.Shelf.Spec.SlicesGrow
import Derived.Ground.Names8Prog
import Derived.Shelf.SlGeneric
set_option linter.all false
set_option maxRecDepth 100000
set_option maxHeartbeats 16000000
section
namespace Go.Proofs
open Go.Shelf Go.Proofs.Tryz
theorem qF{α:Type}{p:Option α}{x y:α}(h:p=some x)(e:x=y:=by kernel_rfl):p=some y:=h.trans (congrArg some e)
def Tryz.lays106_ren:Go.Shelf.Ren:=⟨λ| 106=>157 | 213=>220 | 265=>273|n=>n,λ| 9=>9 | 3=>3|n=>n,fun|n=>n⟩
theorem Tryz.lays106:Go.Proofs.Lays.n106 Tryz.prog Tryz.lays106_ren:=⟨by kernel_rfl,qF func157,qF func220,qF func273,underlying3,isAgg3,sizeOf3,zeroValue3,underlying9,isAgg9,sizeOf9,zeroValue9⟩
open Go.RowKit in
theorem Tryz.strings_Compare(a b:ByteArray)(w:World):
  Calls Tryz.prog 157 #[.string a,.string b] w λe w'=>e=.returned (.int .i64 (Lib.compareBytes a.data.toList b.data.toList))/\w'=w:=Any.strings_Compare Tryz.lays106 a b w
def Tryz.lays137_ren:Go.Shelf.Ren:=⟨λ| 137=>196 | 217=>252 | 266=>314|n=>n,λ| 9=>9 | 5=>5 | 3=>3|n=>n,fun|n=>n⟩
theorem Tryz.lays137:Go.Proofs.Lays.n137 Tryz.prog Tryz.lays137_ren:=⟨by kernel_rfl,qF func196,qF func252,qF func314,underlying3,isAgg3,sizeOf3,zeroValue3,underlying5,isAgg5,sizeOf5,zeroValue5,underlying9,isAgg9,sizeOf9,zeroValue9⟩
open Go.RowKit in
theorem Tryz.strings_IndexByte(s:ByteArray)(c:Int)(w:World):
  Calls Tryz.prog 196 #[.string s,.int .u8 c] w λe w'=>e=.returned (.int .i64 (Lib.indexByte s.data.toList c.toNat.toUInt8))/\w'=w:=Any.strings_IndexByte Tryz.lays137 s c w
def Tryz.lays189_ren:Go.Shelf.Ren:=⟨λ| 189=>260 | 125=>219 | 257=>318 | 128=>271 | 129=>272 | 294=>363 | 295=>364 | 296=>365 | 297=>366 | 298=>367 | 299=>368 | 216=>369 | 300=>370 | 301=>371 | 328=>391 | 329=>320 | 330=>321 | 331=>392 | 332=>393 | 215=>357 | 343=>408|n=>n,λ| 28=>81 | 3=>3 | 46=>273 | 0=>0 | 51=>301 | 53=>185 | 4=>4 | 183=>295 | 182=>294 | 131=>167 | 5=>5 | 9=>9 | 218=>332 | 222=>336 | 228=>367 | 229=>321|n=>n,fun|n=>n⟩
theorem Tryz.lays189:Go.Proofs.Lays.n189 Tryz.prog Tryz.lays189_ren:=⟨by kernel_rfl,qF func219,qF func271,qF func272,qF func260,qF func357,qF func369,qF func318,qF func363,qF func364,qF func365,qF func366,qF func367,qF func368,qF func370,qF func371,qF func391,qF func320,qF func321,qF func392,qF func393,qF func408,underlying0,isAgg0,sizeOf0,zeroValue0,underlying3,isAgg3,sizeOf3,zeroValue3,underlying4,isAgg4,sizeOf4,zeroValue4,underlying5,isAgg5,sizeOf5,zeroValue5,underlying9,isAgg9,sizeOf9,zeroValue9,underlying81,isAgg81,sizeOf81,zeroValue81,underlying273,isAgg273,sizeOf273,zeroValue273,underlying301,isAgg301,sizeOf301,zeroValue301,underlying185,isAgg185,sizeOf185,zeroValue185,underlying167,isAgg167,sizeOf167,zeroValue167,underlying294,isAgg294,sizeOf294,zeroValue294,underlying295,isAgg295,sizeOf295,zeroValue295,underlying332,isAgg332,sizeOf332,zeroValue332,underlying336,isAgg336,sizeOf336,zeroValue336,underlying367,isAgg367,sizeOf367,zeroValue367,underlying321,isAgg321,sizeOf321,zeroValue321⟩
open Go.Sort Go.RowKit in
theorem Tryz.slices_Sort_int(blk off cap:Nat)(zs:List Int)(w:World)(hH:Holds (Value.int .i64) w blk off zs.toArray)(hblk:blk<w.heap.size)(hsz:zs.length<4611686018427387904):
  Calls Tryz.prog 260 #[.slice (some ⟨blk,off,none⟩) zs.length cap] w λe w' =>
   e=.returned (.tuple #[])/\∃n os,w'=grow (putRow (Value.int .i64) (Sort.ahead w n) blk off (zs.mergeSort λx y=>decide (x<=y)).toArray) os:=Any.slices_Sort_int Tryz.lays189 blk off cap zs w hH hblk hsz
def Tryz.lays190_ren:Go.Shelf.Ren:=⟨λ| 190=>228 | 125=>219 | 258=>277 | 128=>271 | 129=>272 | 302=>325 | 303=>326 | 304=>327 | 305=>328 | 306=>329 | 307=>330 | 308=>331 | 309=>332 | 310=>333 | 333=>373 | 329=>320 | 330=>321 | 334=>374 | 335=>375 | 336=>376 | 344=>394|n=>n,λ| 31=>31 | 9=>9 | 3=>3 | 46=>273 | 0=>0 | 51=>301 | 53=>185 | 4=>4 | 183=>295 | 182=>294 | 131=>167 | 5=>5 | 218=>332 | 222=>336 | 228=>367 | 229=>321|n=>n,fun|n=>n⟩
theorem Tryz.lays190:Go.Proofs.Lays.n190 Tryz.prog Tryz.lays190_ren:=⟨by kernel_rfl,qF func219,qF func271,qF func272,qF func228,qF func277,qF func325,qF func326,qF func327,qF func328,qF func329,qF func330,qF func331,qF func332,qF func333,qF func320,qF func321,qF func373,qF func374,qF func375,qF func376,qF func394,underlying0,isAgg0,sizeOf0,zeroValue0,underlying3,isAgg3,sizeOf3,zeroValue3,underlying4,isAgg4,sizeOf4,zeroValue4,underlying5,isAgg5,sizeOf5,zeroValue5,underlying9,isAgg9,sizeOf9,zeroValue9,underlying31,isAgg31,sizeOf31,zeroValue31,underlying273,isAgg273,sizeOf273,zeroValue273,underlying301,isAgg301,sizeOf301,zeroValue301,underlying185,isAgg185,sizeOf185,zeroValue185,underlying167,isAgg167,sizeOf167,zeroValue167,underlying294,isAgg294,sizeOf294,zeroValue294,underlying295,isAgg295,sizeOf295,zeroValue295,underlying332,isAgg332,sizeOf332,zeroValue332,underlying336,isAgg336,sizeOf336,zeroValue336,underlying367,isAgg367,sizeOf367,zeroValue367,underlying321,isAgg321,sizeOf321,zeroValue321⟩
open Go.Sort Go.RowKit in
theorem Tryz.slices_Sort_string(blk off cap:Nat)(ss:List (List UInt8))(w:World)(hH:Holds encStr w blk off ss.toArray)(hblk:blk<w.heap.size)(hsz:ss.length<4611686018427387904):
  Calls Tryz.prog 228 #[.slice (some ⟨blk,off,none⟩) ss.length cap] w λe w' =>
   e=.returned (.tuple #[])/\∃n os,w'=grow (putRow encStr (Sort.ahead w n) blk off (ss.mergeSort λx y=>decide (x<=y)).toArray) os:=Any.slices_Sort_string Tryz.lays190 blk off cap ss w hH hblk hsz
def Tryz.lays149_ren:Go.Shelf.Ren:=⟨λ| 149=>234 | 222=>287|n=>n,λ| 9=>9 | 5=>5 | 3=>3 | 4=>4|n=>n,fun|n=>n⟩
theorem Tryz.lays149:Go.Proofs.Lays.n149 Tryz.prog Tryz.lays149_ren:=⟨by kernel_rfl,qF func234,qF func287,underlying3,isAgg3,sizeOf3,zeroValue3,underlying4,isAgg4,sizeOf4,zeroValue4,underlying5,isAgg5,sizeOf5,zeroValue5,underlying9,isAgg9,sizeOf9,zeroValue9⟩
open Go.RowKit Go.Lib in
theorem Tryz.strings_LastIndexByte(s:ByteArray)(c:Int)(hs:s.size<4611686018427387904)(w:World):
  Calls Tryz.prog 234 #[.string s,.int .u8 c] w λe w'=>e=.returned (.int .i64 (Lib.lastIndexByte s c))/\w'=w:=Any.strings_LastIndexByte Tryz.lays149 s c hs w
def Tryz.lays99_ren:Go.Shelf.Ren:=⟨λ| 99=>294 | 206=>354|n=>n,λ| 9=>9 | 4=>4 | 3=>3|n=>n,fun|n=>n⟩
theorem Tryz.lays99:Go.Proofs.Lays.n99 Tryz.prog Tryz.lays99_ren:=⟨by kernel_rfl,qF func294,qF func354,underlying3,isAgg3,sizeOf3,zeroValue3,underlying4,isAgg4,sizeOf4,zeroValue4,underlying9,isAgg9,sizeOf9,zeroValue9⟩
open Go.RowKit Go.Lib in
theorem Tryz.strings_HasPrefix(s p:ByteArray)(w:World):
  Calls Tryz.prog 294 #[.string s,.string p] w λe w'=>e=.returned (.bool (Lib.hasPrefix s.data.toList p.data.toList))/\w'=w:=Any.strings_HasPrefix Tryz.lays99 s p w
def Tryz.lays146_ren:Go.Shelf.Ren:=⟨λ| 146=>233 | 221=>286 | 268=>350 | 138=>351 | 143=>352 | 195=>386 | 197=>387 | 218=>388 | 219=>389 | 260=>404 | 217=>252 | 225=>405 | 224=>406 | 267=>407 | 266=>314 | 314=>413|n=>n,λ| 9=>9 | 31=>31 | 3=>3 | 4=>4 | 0=>0 | 105=>376 | 21=>21 | 5=>5 | 46=>273 | 119=>391 | 139=>394 | 138=>393 | 146=>395 | 51=>301|n=>n,λ| 1=>3 | 3=>4 | 4=>5|n=>n⟩
theorem Tryz.lays146:Go.Proofs.Lays.n146 Tryz.prog Tryz.lays146_ren:=⟨by kernel_rfl,qF func351,qF func352,qF func233,qF func386,qF func387,qF func252,qF func388,qF func389,qF func286,qF func406,qF func405,qF func404,qF func314,qF func407,qF func350,qF func413,underlying0,isAgg0,sizeOf0,zeroValue0,underlying3,isAgg3,sizeOf3,zeroValue3,underlying4,isAgg4,sizeOf4,zeroValue4,underlying5,isAgg5,sizeOf5,zeroValue5,underlying9,isAgg9,sizeOf9,zeroValue9,underlying21,isAgg21,sizeOf21,zeroValue21,underlying31,isAgg31,sizeOf31,zeroValue31,underlying273,isAgg273,sizeOf273,zeroValue273,underlying301,isAgg301,sizeOf301,zeroValue301,underlying376,isAgg376,sizeOf376,zeroValue376,underlying391,isAgg391,sizeOf391,underlying393,isAgg393,sizeOf393,zeroValue393,underlying394,isAgg394,sizeOf394,zeroValue394,underlying395,isAgg395,sizeOf395,zeroValue395,by kernel_rfl,by kernel_rfl,by kernel_rfl⟩
open Go.RowKit Go.Lib in
theorem Tryz.strings_Split(s sep:ByteArray)(m:Int)(w:World)(hs:s.size<4294967281)(hm:w.cell? ⟨3,0,none⟩=some (.int .i64 m))(h1:1<=sep.size):
  Calls Tryz.prog 233 #[.string s,.string sep] w λe w' =>
   e=.returned (.slice (some ⟨w.heap.size,0,none⟩) (Lib.countB s sep+1) (Lib.countB s sep+1))/\w'=w.alloc (.cells ((Lib.splitB sep 0 (Lib.countB s sep) s).map Value.string).toArray 9):=Any.strings_Split Tryz.lays146 (by kernel_rfl) s sep m w hs hm h1
def Tryz.laysM146_ren:Go.Shelf.Ren:=⟨λ| 146=>233 | 221=>286 | 268=>350 | 138=>351 | 143=>352 | 195=>386 | 197=>387 | 218=>388 | 219=>389 | 260=>404 | 217=>252 | 225=>405 | 224=>406 | 267=>407 | 266=>314 | 314=>413|n=>n,λ| 9=>9 | 31=>31 | 3=>3 | 4=>4 | 0=>0 | 105=>376 | 21=>21 | 5=>5 | 46=>273 | 119=>391 | 139=>394 | 138=>393 | 146=>395 | 51=>301|n=>n,λ| 1=>3 | 3=>4 | 4=>5|n=>n⟩
theorem Tryz.laysM146:Go.Proofs.LaysM.n146 Tryz.prog Tryz.laysM146_ren:={mixed:=by kernel_rfl,f138:=qF func351,f143:=qF func352,f146:=qF func233,f195:=qF func386,f197:=qF func387,f217:=qF func252,f218:=qF func388,f219:=qF func389,f221:=qF func286,f224:=qF func406,f225:=qF func405,f260:=qF func404,f266:=qF func314,f267:=qF func407,f268:=qF func350,f314:=qF func413,t0:=underlying0,a0:=isAgg0,z0:=sizeOf0,v0:=zeroValue0,t3:=underlying3,a3:=isAgg3,z3:=sizeOf3,v3:=zeroValue3,t4:=underlying4,a4:=isAgg4,z4:=sizeOf4,v4:=zeroValue4,t5:=underlying5,a5:=isAgg5,z5:=sizeOf5,v5:=zeroValue5,t9:=underlying9,a9:=isAgg9,z9:=sizeOf9,v9:=zeroValue9,t21:=underlying21,a21:=isAgg21,z21:=sizeOf21,v21:=zeroValue21,t31:=underlying31,a31:=isAgg31,z31:=sizeOf31,v31:=zeroValue31,t46:=underlying273,a46:=isAgg273,z46:=sizeOf273,v46:=zeroValue273,t51:=underlying301,a51:=isAgg301,z51:=sizeOf301,v51:=zeroValue301,t105:=underlying376,a105:=isAgg376,z105:=sizeOf376,v105:=zeroValue376,t119:=underlying391,a119:=isAgg391,z119:=sizeOf391,t138:=underlying393,a138:=isAgg393,z138:=sizeOf393,v138:=zeroValue393,t139:=underlying394,a139:=isAgg394,z139:=sizeOf394,v139:=zeroValue394,t146:=underlying395,a146:=isAgg395,z146:=sizeOf395,v146:=zeroValue395,g1:=by kernel_rfl,g3:=by kernel_rfl,g4:=by kernel_rfl,i0:=by kernel_rfl,i3:=by kernel_rfl,i4:=by kernel_rfl,i5:=by kernel_rfl,i9:=by kernel_rfl,i21:=by kernel_rfl,i31:=by kernel_rfl,i46:=by kernel_rfl,i51:=by kernel_rfl,i105:=by kernel_rfl,i138:=by kernel_rfl,i139:=by kernel_rfl,i146:=by kernel_rfl,m1:=by kernel_rfl,s1_3:=λw h=>Go.Proofs.cell_of_shapedOpen_int (zero:=#[.int .i64 0]) (t:=3) h (of_decide_eq_true (by kernel_rfl)) (by kernel_rfl) rfl (by kernel_rfl) (by kernel_rfl) underlying3,m3:=by kernel_rfl,m4:=by kernel_rfl}
def Tryz.lays194_ren:Go.Shelf.Ren:=⟨λ| 194=>229|n=>n,λ| 31=>31 | 9=>9 | 3=>3 | 4=>4 | 0=>0|n=>n,fun|n=>n⟩
theorem Tryz.lays194:Go.Proofs.Lays.n194 Tryz.prog Tryz.lays194_ren:=⟨by kernel_rfl,qF func229,underlying0,isAgg0,sizeOf0,zeroValue0,underlying3,isAgg3,sizeOf3,zeroValue3,underlying4,isAgg4,sizeOf4,zeroValue4,underlying9,isAgg9,sizeOf9,zeroValue9,underlying31,isAgg31,sizeOf31,zeroValue31⟩
open Go.RowKit Go.Lib Go.Sort in
theorem Tryz.slices_Compact_string(blk off cap:Nat)(zs:List (List UInt8))(w:World)(hH:Holds encStr w blk off zs.toArray)(hsz:zs.length<=9223372036854775807)(hcap:zs.length<=cap):
  Calls Tryz.prog 229 #[.slice (some ⟨blk,off,none⟩) zs.length cap] w λe w'=>e=.returned (.slice (some ⟨blk,off,none⟩) (Lib.compact zs).length cap)/\∃q,w'=putRow encStr (Sort.ahead w q) blk off (Lib.compact zs++List.replicate (zs.length-(Lib.compact zs).length) []).toArray:=Any.slices_Compact_string Tryz.lays194 blk off cap zs w hH hsz hcap
open Go.RowKit Go.Lib Go.Sort in
theorem Tryz.slices_Compact_string_empty(a:Option Addr)(cap:Nat)(w:World):
  Calls Tryz.prog 229 #[.slice a 0 cap] w λe w'=>e=.returned (.slice a 0 cap)/\w'=w:=Any.slices_Compact_string_empty Tryz.lays194 a cap w
open Go.RowKit Go.Sort in
theorem Tryz.slices_Sort_string_none(p:Option Addr)(cap:Nat)(w:World):
  Calls Tryz.prog 228 #[.slice p 0 cap] w λe w'=>e=.returned (.tuple #[])/\w'=w:=Any.slices_Sort_string_none Tryz.lays190 p cap w
open Go.RowKit Go.Sort in
theorem Tryz.slices_Sort_int_none(p:Option Addr)(cap:Nat)(w:World):
  Calls Tryz.prog 260 #[.slice p 0 cap] w λe w'=>e=.returned (.tuple #[])/\w'=w:=Any.slices_Sort_int_none Tryz.lays189 p cap w
def Tryz.lays187_ren:Go.Shelf.Ren:=⟨λ| 187=>241 | 255=>292|n=>n,λ| 37=>28 | 5=>5 | 3=>3|n=>n,fun|n=>n⟩
theorem Tryz.lays187:Go.Proofs.Lays.n187 Tryz.prog Tryz.lays187_ren:=⟨by kernel_rfl,qF func241,qF func292,underlying3,isAgg3,sizeOf3,zeroValue3,underlying5,isAgg5,sizeOf5,zeroValue5,underlying28,isAgg28,sizeOf28,zeroValue28⟩
open Go.RowKit Go.Lib in
theorem Tryz.bytes_IndexByte_at(a:Addr)(n c:Nat)(xs:List Int)(cv:Int)(w:World)(hx:xs.length=n)(hc:∀i,i<n->w.cell? (a.add i)=some (.int .u8 (xs.getD i 0))):
  Calls Tryz.prog 241 #[.slice (some a) n c,.int .u8 cv] w λe w'=>e=.returned (.int .i64 (Lib.indexByte (Lib.bytesOf xs) cv.toNat.toUInt8))/\w'=w:=Any.bytes_IndexByte_at Tryz.lays187 a n c xs cv w hx hc
end Go.Proofs
end
section
namespace Go.Proofs.YtlbfnbldeefgmaaGreatDoor
open Go Go.Dm Go.Proofs.Tryz
theorem rN{a:List UInt8}{c:Int}(ha:a.length<4611686018427387904):aA prog 196 [.c (.p (.s a)),.c (.p (.i .u8 c))] [] λr h=>r=.c (.p (.i .i64 (Lib.indexByte a c.toNat.toUInt8)))/\h=[] :=
 qX (N:=4611686018427387904) (g:=λa c=>Lib.indexByte a c.toNat.toUInt8) (enters Tryz.func196 rfl rfl) (λa c w _=>Tryz.strings_IndexByte ⟨a.toArray⟩ c w) ha
theorem zGd{a:List UInt8}(ha:a.length<4294967281):aA prog 233 [.c (.p (.s a)),.c (.p (.s [47]))] [] λr h=>r=.c (.p (.sl 1 (Go.Dm.encS (KT a))))/\h=[]:=by
 rw[<- zGe];exact LV (g1:=Tryz.laysM146_ren.g 1) (enters Tryz.func233 rfl rfl) (λw h=>Tryz.laysM146.s1_3 w h) (λs sep m w h1 h2 h3=>Tryz.strings_Split s sep m w h1 h2 h3) ha (by decide)
theorem oB{d:List UInt8}{c:Int}(hd:d≠[]):aA prog 241 [.c (.p (.sl 1 (bJ d))),.c (.p (.i .u8 c))] [] λr h=>r=.c (.p (.i .i64 (Lib.indexByte d c.toNat.toUInt8)))/\h=[] :=
 zJ (g:=λa c=>Lib.indexByte a c.toNat.toUInt8) (enters Tryz.func241 rfl rfl) (λa n c xs cv w h1 h2=>Tryz.bytes_IndexByte_at a n c xs cv w h1 h2) hd
theorem rW{s:List UInt8}(hs:s.length<=1000000000):aA prog 115 [.c (.p (.s s))] [] λr h=>r=.c (.p (.b (aZ s)))/\h=[]:=by
 have e0:decide (Lib.indexByte s (Int.toNat 0).toUInt8<0)=s.all λb=>!(b==0):=indexByte_none 0 s;have e1:decide (Lib.indexByte s (Int.toNat 47).toUInt8<0)=s.all λb=>!(b==47):=indexByte_none 47 s;have e2:decide ((1:Int)<=s.length) = !(s == []):=by cases s<;>simp<;>omega
 have key:aZ s=(!(s == []) && decide ((s.length:Int)<=24) && (s.all λb=>!(b==0)) && (s.all λb=>!(b==47)) && !(s == [46]) && !(s == [46,46])):=by
  unfold aZ;rw[EY,e2];cases (s == [])<;>cases decide ((s.length:Int)<=24)<;>cases (s.all λb=>!(b==0))<;>cases (s.all λb=>!(b==47))<;>cases (s == [46])<;>rfl
 rw[key];clear key e2;generalize (s.all λb=>!(b==0))=q0 at e0 ⊢;generalize (s.all λb=>!(b==47))=q1 at e1 ⊢;refine eT func115 λX0 hX=>?_;simp only[f115,go_sem]
 repeat' (first|exact⟨⟩|refine sp ?_|refine uF (rN (by omega)) ?_|refine bM (λ_=>?_) (λ_=>?_))
 all_goals first|(simp_all;done)|(simp_all;intros;omega)
theorem fR{p:List UInt8}(hp:p.length<=1000000000):aA prog 221 [.c (.p (.s p))] [] λr h=>r=.c (.p (.b (cI p)))/\h=[]:=by
 by_cases h0:p=[]
 .subst h0;refine eT func221 λX0 hX=>?_;simp only[Tryz.f221,go_sem]
  repeat' (first|exact⟨⟩|refine sp ?_)
  rfl
 .have q0:(p == [])=false:=by simpa using h0
  have hle:∀x∈KT p,x.length<=p.length:=λx hx=>by have:=xP p [] x hx;simpa using this
  have hln:(KT p).length<=p.length+1:=sU p [];refine eT func221 λX0 hX=>?_;simp only[Tryz.f221,go_sem]
  repeat' (first|exact⟨⟩|refine sp ?_|refine uN (zGd (by omega)) ?_)
  have key:cI p=((KT p).all aZ && decide ((p.length:Int)<=120)):=by rw[cI,q0,Bool.false_or]
  generalize KT p=cs at *;refine aY aD aL (α:=Nat) (λk=>⟨21,[(0,.c (.p (.s p))),(8,.c (.p (.sl 1 (Go.Dm.encS cs)))),(9,.c (.p (.i .i64 cs.length))),(10,.c (.p (.i .i64 k)))],[]⟩)
   (λk=>k<=cs.length/\(cs.drop k).all aZ=cs.all aZ) (λk=>cs.length-k) 0 ⟨Nat.zero_le _,rfl⟩ (.inl (aF (by rw[hX];rfl) rfl rfl wkS)) ?_
  rintro k ⟨hk,hs⟩;by_cases hlt:k<cs.length
  .have hx:cs[k]?=some cs[k]:=List.getElem?_eq_getElem hlt;have hg:=Go.Dm.encS_at hx;have hdr:=drop_at hx;have h1:decide ((k:Int)<(cs.length:Int))=true:=decide_eq_true (by omega);have w1:IntKind.i64.wrap ((k:Int)+1)=k+1:=wrap_i64 (by omega) (by omega);have hxl:=hle _ (List.getElem_mem hlt);generalize cs[k]=x at hx hg hdr hxl;rw[hdr,List.all_cons] at hs;clear hdr hle;cases hb:aZ x
   .rw[hb,Bool.false_and] at hs;rw[key,<- hs];clear key hs
    repeat' (first|exact⟨⟩|refine sp ?_|refine uF (rW (by omega)) ?_|refine ai ?_)
   .rw[hb,Bool.true_and] at hs;have hs':k+1<=cs.length/\(cs.drop (k+1)).all aZ=cs.all aZ:=⟨by omega,hs⟩
    clear hs key
    repeat' (first|exact⟨⟩|refine sp ?_|refine uF (rW (by omega)) ?_|refine ai ?_)
    exact gZ (k+1) hs' (by omega) (aF rfl rfl rfl wkS)
  .have h1:decide ((k:Int)<(cs.length:Int))=false:=decide_eq_false (by omega);rw[List.drop_of_length_le (by omega),List.all_nil] at hs;rw[key,<- hs,Bool.true_and];clear key hs hle
   repeat' (first|exact⟨⟩|refine sp ?_)
theorem zNo{k m:Int}{t:Nat}{d:List UInt8}:aA prog 274 [.agg (ndc k m t d)] [] λr h=>r=.c (.p (.b (zAn ⟨k,m,t,d⟩)))/\h=[]:=by
 have e0:decide (Lib.indexByte d (Int.toNat 0).toUInt8<0)=d.all λb=>!(b==0):=indexByte_none 0 d;by_cases hd:d=[]
 .subst hd;refine eT func274 λX0 hX=>?_;simp only[f274,go_sem]
  repeat' (first|exact⟨⟩|refine sp ?_|refine aK (λ_=>?_) (λ_=>?_))
  all_goals simp_all[zAn]
 .have h1:decide ((1:Int)<=(d.length:Int))=true:=by
   have:=List.length_pos_iff.2 hd;exact decide_eq_true (by omega)
  refine eT func274 λX0 hX=>?_;simp only[f274,go_sem];unfold zAn;generalize (d.all λb=>!(b==0))=q0 at e0 ⊢
  repeat' (first|exact⟨⟩|refine sp ?_|refine uF (oB hd) ?_|refine aK (λ_=>?_) (λ_=>?_)|refine bM (λ_=>?_) (λ_=>?_))
  all_goals first|(simp_all;done)|(simp_all;intros;omega)
theorem dZ{k m:Int}{t:Nat}{d:List UInt8}(ht:t<18446744073709551616):aA prog 222 [.agg (ndc k m t d)] [] λr h=>r=.c (.p (.b (aP ⟨k,m,t,d⟩)))/\h=[]:=by
 rw[<- jY (n:=⟨k,m,t,d⟩) ht];refine eT func222 λX0 hX=>?_;simp only[f222,go_sem]
 repeat' (first|exact⟨⟩|refine sp ?_|refine uF (zNo) ?_|((refine aG (id:=1) aD aL [] [0,1,2,3,4,5,6,7,8] (by decide +kernel) ?_);(repeat' (first|(refine aO ?_)|((refine bK ?_ rfl rfl ?_ ?_);(rotate_left 1);(focus ((repeat' (first|exact⟨⟩|refine sp ?_|refine uF (dD _) ?_|refine uF (DU _) ?_));exact rfl));(simp only[aC])))))|refine bM (λ_=>?_) (λ_=>?_))
 all_goals first|(simp_all[mQ,AV];done)|(simp_all[mQ];intros;omega)
end Go.Proofs.YtlbfnbldeefgmaaGreatDoor
end
section
namespace Go.Proofs
open Go.Shelf
def Tryz.growStr_ren:Go.Shelf.Ren:=⟨λ| 4=>353|n=>n,λ| 22=>31 | 25=>9 | 3=>3 | 4=>4 | 9=>9 | 20=>20 | 0=>0|n=>n,fun|n=>n⟩
theorem Tryz.growStr:Go.Proofs.Lays8.n4 Tryz.prog Tryz.growStr_ren:={
 mixed:=by kernel_rfl
 f4:=⟨Tryz.f353.name,by decide,Tryz.func353.trans (congrArg some (by kernel_rfl))⟩
 t0:=Tryz.underlying0
 a0:=Tryz.isAgg0
 z0:=Tryz.sizeOf0
 v0:=Tryz.zeroValue0
 t3:=Tryz.underlying3
 a3:=Tryz.isAgg3
 z3:=Tryz.sizeOf3
 v3:=Tryz.zeroValue3
 t4:=Tryz.underlying4
 a4:=Tryz.isAgg4
 z4:=Tryz.sizeOf4
 v4:=Tryz.zeroValue4
 t9:=Tryz.underlying9
 a9:=Tryz.isAgg9
 z9:=Tryz.sizeOf9
 v9:=Tryz.zeroValue9
 t20:=Tryz.underlying20
 a20:=Tryz.isAgg20
 z20:=Tryz.sizeOf20
 v20:=Tryz.zeroValue20
 t22:=Tryz.underlying31
 a22:=Tryz.isAgg31
 z22:=Tryz.sizeOf31
 v22:=Tryz.zeroValue31 }
def Tryz.growByte_ren:Go.Shelf.Ren:=⟨λ| 4=>297|n=>n,λ| 22=>28 | 25=>5 | 3=>3 | 4=>4 | 9=>9 | 20=>20 | 0=>0|n=>n,fun|n=>n⟩
theorem Tryz.growByte:Go.Proofs.Lays8.n4 Tryz.prog Tryz.growByte_ren:={
 mixed:=by kernel_rfl
 f4:=⟨Tryz.f297.name,by decide,Tryz.func297.trans (congrArg some (by kernel_rfl))⟩
 t0:=Tryz.underlying0
 a0:=Tryz.isAgg0
 z0:=Tryz.sizeOf0
 v0:=Tryz.zeroValue0
 t3:=Tryz.underlying3
 a3:=Tryz.isAgg3
 z3:=Tryz.sizeOf3
 v3:=Tryz.zeroValue3
 t4:=Tryz.underlying4
 a4:=Tryz.isAgg4
 z4:=Tryz.sizeOf4
 v4:=Tryz.zeroValue4
 t9:=Tryz.underlying9
 a9:=Tryz.isAgg9
 z9:=Tryz.sizeOf9
 v9:=Tryz.zeroValue9
 t20:=Tryz.underlying20
 a20:=Tryz.isAgg20
 z20:=Tryz.sizeOf20
 v20:=Tryz.zeroValue20
 t22:=Tryz.underlying28
 a22:=Tryz.isAgg28
 z22:=Tryz.sizeOf28
 v22:=Tryz.zeroValue28 }
end Go.Proofs
end
section
namespace Go.Proofs.YtlbfnbldeefgmaaGreatDoor
open Go Go.Dm Go.Proofs Go.Proofs.Tryz
theorem zEf{h:aB}{n:Nat}(hn:n<=1000000000):
  aA prog 353 [.c (.p .nil),.c (.p (.i .i64 n))] h λd h'=>d=.c (.own h.length 0 0)/\h'=h++[.arr 1 [] false]:=by
 have:=nF (n:=n) (h:=h) (e:=9) aD (by rw[tab9];exactλh=>by cases h) (by rw[tab9];decide) (enters func353 rfl rfl)
  (λw=>Any8.slices_Grow_room Tryz.growStr none 0 0 0 w (Nat.le_refl _) (by decide) (by decide) (Nat.le_refl _))
  (λi0 z n w h1 h2 h3 h4 h5 h6=>by
   have:=Any8.slices_Grow_grow Tryz.growStr i0 z h1 h2 h3 none 0 0 n [] w (Nat.le_refl _) (by omega) (by simpa using h5) (by simpa using h6) (by simp) (λ_=>rfl) (λa ha=>by cases ha)
   simp only[Nat.zero_add,Nat.sub_zero] at this;exact this)
  (by rw[tab9];simp only;omega) (by omega)
 rw[tab9] at this;exact this
theorem zAN{h:aB}{n:Nat}(hn:n<=1000000000):
  aA prog 297 [.c (.p .nil),.c (.p (.i .i64 n))] h λd h'=>d=.c (.own h.length 0 0)/\h'=h++[.arr 1 [] false]:=by
 have:=nF (n:=n) (h:=h) (e:=5) aD (by rw[tab5];exactλh=>by cases h) (by rw[tab5];decide) (enters func297 rfl rfl)
  (λw=>Any8.slices_Grow_room Tryz.growByte none 0 0 0 w (Nat.le_refl _) (by decide) (by decide) (Nat.le_refl _))
  (λi0 z n w h1 h2 h3 h4 h5 h6=>by
   have:=Any8.slices_Grow_grow Tryz.growByte i0 z h1 h2 h3 none 0 0 n [] w (Nat.le_refl _) (by omega) (by simpa using h5) (by simpa using h6) (by simp) (λ_=>rfl) (λa ha=>by cases ha)
   simp only[Nat.zero_add,Nat.sub_zero] at this;exact this)
  (by rw[tab5];simp only;omega) (by omega)
 rw[tab5] at this;exact this
theorem zEg{h:aB}{n:Nat}{K:DV->aB->Prop}(hn:n<=1000000000)(hk:K (.c (.own h.length 0 0)) (h++[.arr 1 [] false])):
  aA prog 353 [.c (.p .nil),.c (.p (.i .i64 n))] h K:=(zEf hn).mono (by rintro _ _ ⟨rfl,rfl⟩;exact hk)
theorem zAO{h:aB}{n:Nat}{K:DV->aB->Prop}(hn:n<=1000000000)(hk:K (.c (.own h.length 0 0)) (h++[.arr 1 [] false])):
  aA prog 297 [.c (.p .nil),.c (.p (.i .i64 n))] h K:=(zAN hn).mono (by rintro _ _ ⟨rfl,rfl⟩;exact hk)
theorem zCK{a b:List (List UInt8)}(ha:a.length<=100000)(hb:b.length<=100000):
  aA prog 288 [.c (.p (.sl 1 [[.sl 1 (Go.Dm.encS a)],[.sl 1 (Go.Dm.encS b)]]))] [] λr h=>r=.c (.p (.sl 1 (Go.Dm.encS (a++b))))/\h=[]:=by
 have w1:IntKind.i64.wrap ((a.length:Int))=a.length:=wrap_i64 (by omega) (by omega);have w2:IntKind.i64.wrap ((a.length:Int)+b.length)=((a.length+b.length:Nat):Int):=by rw[wrap_i64 (by omega) (by omega)];omega
 have h1:decide ((a.length:Int)<0)=false:=decide_eq_false (by omega);have h2:decide (((a.length+b.length:Nat):Int)<0)=false:=decide_eq_false (by omega);refine eT func288 λX0 hX=>?_;simp only[f288,go_sem]
 repeat' (first|simp only[*,go_sem,Nat.reduceLT,Nat.reduceLeDiff,Nat.reduceEqDiff,↓reduceIte,Nat.reduceAdd,Int.reduceLT,Int.reduceLE,Int.reduceAdd,Int.reduceNeg,Int.reduceToNat,Int.zero_add]|refine dY aD aL 3 ?_|refine zEg (n:=a.length+b.length) (by omega) ?_|refine ai ?_)
 all_goals rw[List.take_of_length_le (by simp)]
theorem zA3{d s:List UInt8}(hd:d.length<=1000000)(hs:s.length<=1000000):aA prog 235 [.c (.p (.s d)),.c (.p (.s s))] [] λr h=>r=.c (.p (.s (kJ d s)))/\h=[]:=by
 unfold kJ;refine eT func235 λX0 hX=>?_;simp only[f235,go_sem]
 repeat' (first|exact⟨⟩|refine sp ?_|refine aK (λ_=>?_) (λ_=>?_)|refine ai ?_)
 all_goals simp_all
theorem zJ3(s:List UInt8):(s.all λb=>!(b==0))=s.all λb=>!((b.toNat:Int)==0):=by
 congr 1;funext b
 congr 1
 rw[Bool.eq_iff_iff,beq_iff_eq,beq_iff_eq];constructor
 .rintro rfl;rfl
 .intro h;exact UInt8.toNat_inj.1 (by have:(0:UInt8).toNat=0:=rfl;omega)
theorem AU{s:List UInt8}(hs:s.length<=9223372036854775807):aA prog 172 [.c (.p (.s s))] [] λr h=>r=.tup [.c (.p (.sl 1 (Go.Dm.encS (fX s).1))),.c (.p (.i .i64 (fX s).2))]/\h=[]:=by
 have e0:decide (0<=Lib.indexByte s (Nat.toUInt8 0)) = !(s.all λb=>!((b.toNat:Int)==0)):=by
  have:=indexByte_none 0 s;rw[<- zJ3,<- this,<- decide_not];exact decide_eq_decide.2 (by rw[Int.not_lt];exact Iff.rfl)
 refine aI ?_;unfold fX;cases q0:decide ((120:Int)<s.length)
 .rw [if_neg (by decide)];have q0':¬ (120:Int)<s.length:=of_decide_eq_false q0;generalize (s.all λb=>!((b.toNat:Int)==0))=q1 at e0 ⊢;cases q1
  ·
   rw[if_pos (by rfl)];refine eT func172 λX0 hX=>?_;simp only[f172,go_sem]
   repeat' (first|exact⟨⟩|refine sp ?_|refine uF (rN (by omega)) ?_)
   all_goals exact .inr ⟨_,rfl⟩
  .rw [if_neg (by decide)];have hcl:(KT s).length<=s.length+1:=sU s [];have hsp:=zGd (a:=s) (by omega);generalize KT s=P at hcl hsp ⊢;refine eT func172 λX0 hX=>?_;simp only[f172,go_sem]
   repeat' (first|exact⟨⟩|refine sp ?_|refine uF (rN (by omega)) ?_|refine uN (hsp) ?_)
   clear hsp e0;refine iQ aD aL 4 1 rfl ?_;refine aY aD aL (α:=Nat × List (List UInt8)) (λx=>⟨33,[(16,.c (.p (.sl 1 (Go.Dm.encS P)))),(17,.c (.p (.i .i64 P.length))),(18,.c (.p (.i .i64 x.1))),(4,.c (.own 0 0 x.2.length))],[.arr 1 (Go.Dm.encS x.2) false]⟩)
    (λx=>x.1<=P.length/\((P.take x.1).all λy=>!decide ((24:Int)<y.length))=true/\((P.take x.1).filter λy=>!(y == []))=x.2) (λx=>P.length-x.1) (0,[]) ⟨Nat.zero_le _,rfl,rfl⟩ (.inl (aF (by rw[hX];rfl) rfl rfl wkS)) ?_
   rintro⟨k,out⟩ ⟨hk,hal,hfo⟩;simp only at hk hal hfo;have hol:out.length<=k:=by rw[<- hfo];exact Nat.le_trans (List.length_filter_le ..) (List.length_take_le ..)
   by_cases hlt:k<P.length
   .have hx:P[k]?=some P[k]:=List.getElem?_eq_getElem hlt;have hg:=encS_at hx;have h1:decide ((k:Int)<(P.length:Int))=true:=decide_eq_true (by omega);have h2:(k:Int)<(P.length:Int):=by omega
    have w1:IntKind.i64.wrap ((k:Int)+1)=k+1:=wrap_i64 (by omega) (by omega);have htk:=List.take_add_one (l:=P) (i:=k);have hmem:P[k]∈P:=List.getElem_mem hlt;rw[hx] at htk;generalize P[k]=x at hx hg htk hmem
    repeat' (first|exact⟨⟩|refine sp ?_|refine aK (λ_=>?_) (λ_=>?_)|((with_reducible refine And.intro ?_ ?_);((first|omega|decide))))
    .rename_i hb;have:(P.all λy=>!decide ((24:Int)<y.length))=false:=by
      rw[List.all_eq_false];exact⟨x,hmem,by rw[hb];decide⟩
     rw[this];exact⟨.inr ⟨_,rfl⟩,rfl⟩
    .rename_i hb hn;have hn':x≠[]:=by simpa using hn
     exact kV (k+1,out++[x]) 0 2 ⟨by omega,by rw[htk];simp[hal,hb],by rw[htk,List.filter_append,hfo];simp[hn']⟩ (by simp only;omega) rfl rfl (aF rfl rfl rfl wkS)
    .rename_i hb hn;have hn':x=[]:=by simpa using hn
     exact gZ (k+1,out) ⟨by omega,by rw[htk];simp[hal,hb],by rw[htk,List.filter_append,hfo];simp[hn']⟩ (by simp only;omega) (aF rfl rfl rfl wkS)
   .have h1:decide ((k:Int)<(P.length:Int))=false:=decide_eq_false (by omega);rw[List.take_of_length_le (by omega)] at hal hfo;rw[hal,if_pos rfl,hfo]
    repeat' (first|exact⟨⟩|refine sp ?_)
    all_goals first|exact .inl rfl|rw[List.take_of_length_le (by omega)]
 .rw[if_pos (by rfl)];refine eT func172 λX0 hX=>?_;simp only[f172,go_sem]
  repeat' (first|exact⟨⟩|refine sp ?_)
  all_goals exact .inr ⟨_,rfl⟩
end Go.Proofs.YtlbfnbldeefgmaaGreatDoor
end
