/- Part 5 of the proof of roomKnown_card. No condition. -/
import Derived.Test.YtbpblnmhlhpebaaGreatDoorB03
import Derived.Test.YtbpblnmhlhpebaaGreatDoorProg
set_option linter.all false
section
namespace Go.Dm
open Go
def zpv:Value→Option PV
 | .bool x=>some (.b x)
 | .int k n=>some (.i k n)
 | .string s=>some (.s s.1.toList)
 | .float .f64 x=>some (.f x)
 | .slice none 0 0=>some .nil
 | .pointer none=>some (.o (.pointer none))
 | .map none=>some (.o (.map none))
 | .nilFunc=>some (.o .nilFunc)
 | .nilIface=>some (.o .nilIface)
 | _=>none
def zLk:List Value→Option (List PV)
 | []=>some []
 | v::l=>match zpv v,zLk l with
  | some p,some ps=>some (p::ps)
  | _,_=>none
theorem zE8 {v:Value} {p:PV} (h:zpv v=some p):kO p=some v∧v.oneCell'=true:=by
 unfold zpv at h
 split at h <;> first|cases h;exact ⟨rfl,rfl⟩|cases h
theorem KR:∀ {l:List Value} {ps:List PV},zLk l=some ps→ps.map kO=l.map some∧ps.length=l.length∧∀ v∈l,v.oneCell'=true
 | [],ps,h=>by cases h;exact ⟨rfl,rfl,fun _ h=>by cases h⟩
 | v::l,ps,h=>by
  rw [zLk] at h
  split at h
  case h_1 p qs h1 h2 =>
   cases h
   have a:=zE8 h1
   have b:=KR h2
   exact ⟨by simp [a.1,b.1],by simp [b.2.1],fun x hx=>by rcases List.mem_cons.1 hx with rfl|hx;exact a.2;exact b.2.2 x hx⟩
  case h_2=>cases h
def kOf:Option TypeDesc→TK
 | some .bool=>.bool
 | some (.int k)=>.int k
 | some (.float .f64)=>.float
 | some .string=>.str
 | some (.pointer e)=>.ptr e
 | some (.slice e)=>.slice e
 | some (.array n e)=>.array n e
 | some (.map k e)=>.map k e
 | some (.struct fs)=>.struct (fs.toList.map fun f=>(f.type,f.offset))
 | some (.func _ _ _)=>.func
 | some (.interface _)=>.iface
 | _=>.no
theorem zKF {d:Option TypeDesc} (h:kOf d≠.no):lA d (kOf d):=by
 unfold kOf at h ⊢
 split <;> simp_all [lA]
def mV:TI:=⟨.no,0,0,[]⟩
def noB:TK→Bool
 | .no=>true
 | _=>false
def zMm:Value→Bool
 | .agg _=>true
 | _=>false
noncomputable def zLt (P:Program) (t:Nat):TI :=
 match P.info? t with
 | none=>mV
 | some i=>match i.zero with
  | none=>mV
  | some z=>match zLk z.cells.toList with
   | none=>mV
   | some ps =>
    if noB (kOf (P.underlying t))=false∧i.size=ps.length∧i.size≠0∧zMm z=(kOf (P.underlying t)).agg∧(zMm z=false→i.size=1∧z.oneCell'=true) then ⟨kOf (P.underlying t),i.size,i.bytes,ps⟩ else mV
theorem tN {P:Program} {t:Nat}:zJy P t mV:=rfl
theorem zIs {P:Program} {t:Nat}:zJy P t (zLt P t):=by
 unfold zLt
 split
 ·exact tN
 ·rename_i i hi
  split
  ·exact tN
  ·rename_i z hz
   split
   ·exact tN
   ·rename_i ps hp
    split
    ·rename_i h
     obtain ⟨h1,h2,h3,h4,h5⟩:=h
     have hf:=KR hp
     have hk:kOf (P.underlying t)≠.no:=fun h=>by rw [h] at h1;cases h1
     have hd:=zKF hk
     have hag:((kOf (P.underlying t)).agg=true→∃ cs,z=.agg cs)∧((kOf (P.underlying t)).agg=false→i.size=1∧z.oneCell'=true):=by
      rw [← h4]
      refine ⟨fun h=>?_,h5⟩
      cases z <;> first|exact ⟨_,rfl⟩|cases h
     unfold zJy
     simp only
     generalize kOf (P.underlying t)=k at *
     cases k
     case no=>exact absurd rfl hk
     all_goals exact ⟨hd,i,z,hi,rfl,rfl,hz,hf.1,h2,hag.1,hag.2⟩
    ·exact tN
end Go.Dm
namespace Go.Proofs.YtbpblnmhlhpebaaGreatDoor
open Go Go.Dm
set_option maxRecDepth 100000
def y0:TI:=⟨.func,1,8,[.o .nilFunc]⟩
def y1:TI:=⟨.struct [(9,0),(3,1)],2,24,[.s [],.i .i64 0]⟩
def y2:TI:=⟨.int .i64,1,8,[.i .i64 0]⟩
def y3:TI:=⟨.int .u64,1,8,[.i .u64 0]⟩
def y4:TI:=⟨.int .u8,1,1,[.i .u8 0]⟩
def y5:TI:=⟨.int .i32,1,4,[.i .i32 0]⟩
def y6:TI:=⟨.str,1,16,[.s []]⟩
def zMk:List TI:=[
 mV,y0,y2,y2,⟨.bool,1,1,[.b false]⟩,y4,y4,⟨.struct [(2,0),(3,1),(4,2),(6,3)],4,24,[.i .i64 0,.i .i64 0,.b false,.i .u8 0]⟩,⟨.struct [(2,0),(3,1),(4,2),(6,3)],4,24,[.i .i64 0,.i .i64 0,.b false,.i .u8 0]⟩,
 y6,y6,y6,y3,⟨.struct [(9,0),(12,1)],2,24,[.s [],.i .u64 0]⟩,⟨.struct [(9,0),(12,1)],2,24,[.s [],.i .u64 0]⟩,⟨.ptr 393,1,8,[.o (.pointer none)]⟩,
 ⟨.ptr 396,1,8,[.o (.pointer none)]⟩,⟨.ptr 404,1,8,[.o (.pointer none)]⟩,⟨.struct [(17,0)],1,8,[.o (.pointer none)]⟩,⟨.struct [(17,0)],1,8,[.o (.pointer none)]⟩,
 ⟨.iface,1,16,[.o .nilIface]⟩,y5,⟨.slice 98,1,24,[.nil]⟩,⟨.slice 119,1,24,[.nil]⟩,⟨.ptr 93,1,8,[.o (.pointer none)]⟩,y0,⟨.slice 121,1,24,[.nil]⟩,
 y0,y0,y2,y0,⟨.slice 114,1,24,[.nil]⟩,y0,y0,y0,mV,y0,y0,y0,⟨.float,1,8,[.f 0]⟩,⟨.slice 5,1,24,[.nil]⟩,⟨.struct [(3,0),(3,1),(39,2),(40,3)],4,48,[.i .i64 0,.i .i64 0,.f 0,.nil]⟩,
 ⟨.struct [(3,0),(3,1),(39,2),(40,3)],4,48,[.i .i64 0,.i .i64 0,.f 0,.nil]⟩,⟨.slice 9,1,24,[.nil]⟩,⟨.struct [(29,0),(42,1),(40,5),(43,6)],7,104,[.i .i64 0,.i .i64 0,.i .i64 0,.f 0,.nil,.nil,.nil]⟩,
 ⟨.struct [(29,0),(42,1),(40,5),(43,6)],7,104,[.i .i64 0,.i .i64 0,.i .i64 0,.f 0,.nil,.nil,.nil]⟩,y0,⟨.struct [(3,0),(9,1),(9,2),(3,3),(39,4),(3,5),(3,6),(40,7)],8,96,[.i .i64 0,.s [],.s [],.i .i64 0,.f 0,.i .i64 0,.i .i64 0,.nil]⟩,
 ⟨.struct [(3,0),(9,1),(9,2),(3,3),(39,4),(3,5),(3,6),(40,7)],8,96,[.i .i64 0,.s [],.s [],.i .i64 0,.f 0,.i .i64 0,.i .i64 0,.nil]⟩,
 y0,⟨.slice 221,1,24,[.nil]⟩,mV,y0,y0,mV,y0,y0,⟨.slice 68,1,24,[.nil]⟩,⟨.slice 3,1,24,[.nil]⟩,⟨.struct [(29,0),(45,1),(31,8),(50,9)],10,160,[.i .i64 0,.i .i64 0,.i .i64 0,.i .i64 0,.f 0,.nil,.nil,.nil,.nil,.nil]⟩,
 ⟨.struct [(29,0),(45,1),(31,8),(50,9)],10,160,[.i .i64 0,.i .i64 0,.i .i64 0,.i .i64 0,.f 0,.nil,.nil,.nil,.nil,.nil]⟩,y0,⟨.struct [(3,0),(9,1),(9,2),(9,3),(48,4),(3,12),(40,13)],14,184,[.i .i64 0,.s [],.s [],.s [],.i .i64 0,.s [],.s [],.i .i64 0,.f 0,.i .i64 0,.i .i64 0,.nil,.i .i64 0,.nil]⟩,
 ⟨.struct [(3,0),(9,1),(9,2),(9,3),(48,4),(3,12),(40,13)],14,184,[.i .i64 0,.s [],.s [],.s [],.i .i64 0,.s [],.s [],.i .i64 0,.f 0,.i .i64 0,.i .i64 0,.nil,.i .i64 0,.nil]⟩,
 y0,⟨.struct [(3,0),(3,1),(3,2),(3,3),(3,4),(3,5),(3,6),(3,7),(39,8),(40,9),(9,10)],11,112,[.i .i64 0,.i .i64 0,.i .i64 0,.i .i64 0,.i .i64 0,.i .i64 0,.i .i64 0,.i .i64 0,.f 0,.nil,.s []]⟩,
 ⟨.struct [(3,0),(3,1),(3,2),(3,3),(3,4),(3,5),(3,6),(3,7),(39,8),(40,9),(9,10)],11,112,[.i .i64 0,.i .i64 0,.i .i64 0,.i .i64 0,.i .i64 0,.i .i64 0,.i .i64 0,.i .i64 0,.f 0,.nil,.s []]⟩,
 ⟨.struct [(3,0),(3,1),(3,2),(3,3),(3,4),(66,5),(40,16)],17,176,[.i .i64 0,.i .i64 0,.i .i64 0,.i .i64 0,.i .i64 0,.i .i64 0,.i .i64 0,.i .i64 0,.i .i64 0,.i .i64 0,.i .i64 0,.i .i64 0,.i .i64 0,.f 0,.nil,.s [],.nil]⟩,
 ⟨.struct [(3,0),(3,1),(3,2),(3,3),(3,4),(66,5),(40,16)],17,176,[.i .i64 0,.i .i64 0,.i .i64 0,.i .i64 0,.i .i64 0,.i .i64 0,.i .i64 0,.i .i64 0,.i .i64 0,.i .i64 0,.i .i64 0,.i .i64 0,.i .i64 0,.f 0,.nil,.s [],.nil]⟩,
 ⟨.slice 76,1,24,[.nil]⟩,y0,⟨.slice 90,1,24,[.nil]⟩,y0,y0,⟨.slice 26,1,24,[.nil]⟩,y1,y1,y0,y0,y0,⟨.slice 145,1,24,[.nil]⟩,⟨.struct [(80,0),(69,1),(3,2)],3,56,[.nil,.nil,.i .i64 0]⟩,
 ⟨.struct [(80,0),(69,1),(3,2)],3,56,[.nil,.nil,.i .i64 0]⟩,y0,mV,y0,y0,y0,y0,⟨.struct [(3,0),(3,1),(3,2),(4,3)],4,32,[.i .i64 0,.i .i64 0,.i .i64 0,.b false]⟩,
 ⟨.struct [(3,0),(3,1),(3,2),(4,3)],4,32,[.i .i64 0,.i .i64 0,.i .i64 0,.b false]⟩,⟨.map 3 135,1,8,[.o (.map none)]⟩,⟨.struct [(69,0),(71,1),(91,2),(3,3)],4,64,[.nil,.nil,.o (.map none),.i .i64 0]⟩,
 ⟨.struct [(69,0),(71,1),(91,2),(3,3)],4,64,[.nil,.nil,.o (.map none),.i .i64 0]⟩,y0,⟨.struct [(3,0),(3,1),(3,2),(39,3),(40,4)],5,56,[.i .i64 0,.i .i64 0,.i .i64 0,.f 0,.nil]⟩,
 ⟨.struct [(3,0),(3,1),(3,2),(39,3),(40,4)],5,56,[.i .i64 0,.i .i64 0,.i .i64 0,.f 0,.nil]⟩,⟨.struct [(3,0),(96,1)],6,64,[.i .i64 0,.i .i64 0,.i .i64 0,.i .i64 0,.f 0,.nil]⟩,
 ⟨.struct [(3,0),(96,1)],6,64,[.i .i64 0,.i .i64 0,.i .i64 0,.i .i64 0,.f 0,.nil]⟩,y0,mV,y0,y0,y0,y0,mV,y0,y0,y0,y0,y0,y0,y0,
 ⟨.struct [(9,0),(3,1),(42,2),(42,6)],10,120,[.s [],.i .i64 0,.i .i64 0,.i .i64 0,.f 0,.nil,.i .i64 0,.i .i64 0,.f 0,.nil]⟩,⟨.struct [(9,0),(3,1),(42,2),(42,6)],10,120,[.s [],.i .i64 0,.i .i64 0,.i .i64 0,.f 0,.nil,.i .i64 0,.i .i64 0,.f 0,.nil]⟩,
 y0,y0,y0,⟨.struct [(3,0),(3,1),(3,2),(96,3)],8,80,[.i .i64 0,.i .i64 0,.i .i64 0,.i .i64 0,.i .i64 0,.i .i64 0,.f 0,.nil]⟩,⟨.struct [(3,0),(3,1),(3,2),(96,3)],8,80,[.i .i64 0,.i .i64 0,.i .i64 0,.i .i64 0,.i .i64 0,.i .i64 0,.f 0,.nil]⟩,
 ⟨.struct [(9,0),(42,1)],5,64,[.s [],.i .i64 0,.i .i64 0,.f 0,.nil]⟩,⟨.struct [(9,0),(42,1)],5,64,[.s [],.i .i64 0,.i .i64 0,.f 0,.nil]⟩,
 y0,y0,y0,y0,y0,y0,mV,y0,mV,y0,mV,y0,y0,⟨.slice 202,1,24,[.nil]⟩,y0,mV,y0,y0,y0,y0,y0,y0,⟨.struct [(90,0),(26,4)],5,56,[.i .i64 0,.i .i64 0,.i .i64 0,.b false,.nil]⟩,
 ⟨.struct [(90,0),(26,4)],5,56,[.i .i64 0,.i .i64 0,.i .i64 0,.b false,.nil]⟩,mV,y0,mV,y0,y0,mV,y0,y0,y0,y0,y0,y0,y0,y0,y0,
 y0,y0,y0,mV,y0,y0,⟨.map 9 4,1,8,[.o (.map none)]⟩,y0,y0,y0,y0,y0,y0,y0,y0,y0,y0,y0,y0,y0,y0,y0,y0,y3,⟨.array 12 39,12,96,[.f 0,.f 0,.f 0,.f 0,.f 0,.f 0,.f 0,.f 0,.f 0,.f 0,.f 0,.f 0]⟩,
 y0,mV,y0,mV,y0,⟨.struct [(26,0),(9,1),(4,2),(42,3)],7,96,[.nil,.s [],.b false,.i .i64 0,.i .i64 0,.f 0,.nil]⟩,⟨.struct [(26,0),(9,1),(4,2),(42,3)],7,96,[.nil,.s [],.b false,.i .i64 0,.i .i64 0,.f 0,.nil]⟩,
 y0,y0,y0,mV,y0,y0,⟨.struct [(26,0),(26,1)],2,48,[.nil,.nil]⟩,⟨.struct [(26,0),(26,1)],2,48,[.nil,.nil]⟩,⟨.struct [(9,0),(3,1),(4,2),(42,3)],7,80,[.s [],.i .i64 0,.b false,.i .i64 0,.i .i64 0,.f 0,.nil]⟩,
 ⟨.struct [(9,0),(3,1),(4,2),(42,3)],7,80,[.s [],.i .i64 0,.b false,.i .i64 0,.i .i64 0,.f 0,.nil]⟩,y0,y0,y0,y0,y0,y0,y0,y0,⟨.array 7 9,7,112,[.s [],.s [],.s [],.s [],.s [],.s [],.s []]⟩,
 ⟨.array 24 3,24,192,[.i .i64 0,.i .i64 0,.i .i64 0,.i .i64 0,.i .i64 0,.i .i64 0,.i .i64 0,.i .i64 0,.i .i64 0,.i .i64 0,.i .i64 0,.i .i64 0,.i .i64 0,.i .i64 0,.i .i64 0,.i .i64 0,.i .i64 0,.i .i64 0,.i .i64 0,.i .i64 0,.i .i64 0,.i .i64 0,.i .i64 0,.i .i64 0]⟩,
 y0,⟨.slice 4,1,24,[.nil]⟩,y0,y0,y0,y0,y0,y1,y1,y0,⟨.array 6 9,6,96,[.s [],.s [],.s [],.s [],.s [],.s []]⟩,y0,y0,y0,⟨.slice 135,1,24,[.nil]⟩,
 y0,y0,y0,y0,y0,y3,y0,y0,y0,y0,y0,y0,y0,y0,mV,y0,⟨.ptr 246,1,8,[.o (.pointer none)]⟩,⟨.struct [(26,0),(9,1),(43,2),(3,3)],4,72,[.nil,.s [],.nil,.i .i64 0]⟩,
 ⟨.struct [(26,0),(9,1),(43,2),(3,3)],4,72,[.nil,.s [],.nil,.i .i64 0]⟩,mV,y0,y0,y0,y0,y0,y0,y0,y0,mV,y0,y0,y0,y0,y0,⟨.map 3 4,1,8,[.o (.map none)]⟩,
 y0,y0,y0,y0,y0,y0,y0,y0,⟨.slice 276,1,24,[.nil]⟩,y0,mV,y0,⟨.struct [(9,0),(9,1)],2,32,[.s [],.s []]⟩,⟨.struct [(9,0),(9,1)],2,32,[.s [],.s []]⟩,
 y0,y0,y0,⟨.ptr 282,1,8,[.o (.pointer none)]⟩,⟨.struct [(40,0)],1,24,[.nil]⟩,⟨.struct [(40,0)],1,24,[.nil]⟩,y0,y0,y0,y2,mV,y0,y0,
 y0,y0,y0,⟨.int .u32,1,4,[.i .u32 0]⟩,y0,y0,y0,y0,y0,y0,y0,y0,y0,y0,y0,y0,y0,y0,y0,y0,⟨.slice 50,1,24,[.nil]⟩,y0,y0,y0,y0,
 y0,y0,y0,y0,y0,y0,y0,y0,y0,y0,y0,y0,y0,y0,y0,y0,y0,y3,y0,y0,y0,⟨.ptr 3,1,8,[.o (.pointer none)]⟩,y0,y0,mV,y0,y0,y0,y0,
 ⟨.slice 40,1,24,[.nil]⟩,y0,y0,y0,y0,y0,y0,y0,y0,y0,y0,y0,y0,y0,y0,y0,y0,y0,y0,⟨.ptr 332,1,8,[.o (.pointer none)]⟩,y0,y0,⟨.slice 43,1,24,[.nil]⟩,
 y0,y0,y0,y0,y0,y0,y0,y0,y0,y0,y0,mV,y0,y0,y0,y0,y0,y0,⟨.array 256 5,256,256,[.i .u8 0,.i .u8 0,.i .u8 0,.i .u8 0,.i .u8 0,.i .u8 0,.i .u8 0,.i .u8 0,.i .u8 0,.i .u8 0,.i .u8 0,.i .u8 0,.i .u8 0,.i .u8 0,.i .u8 0,.i .u8 0,.i .u8 0,.i .u8 0,.i .u8 0,.i .u8 0,.i .u8 0,.i .u8 0,.i .u8 0,.i .u8 0,.i .u8 0,.i .u8 0,.i .u8 0,.i .u8 0,.i .u8 0,.i .u8 0,.i .u8 0,.i .u8 0,.i .u8 0,.i .u8 0,.i .u8 0,.i .u8 0,.i .u8 0,.i .u8 0,.i .u8 0,.i .u8 0,.i .u8 0,.i .u8 0,.i .u8 0,.i .u8 0,.i .u8 0,.i .u8 0,.i .u8 0,.i .u8 0,.i .u8 0,.i .u8 0,.i .u8 0,.i .u8 0,.i .u8 0,.i .u8 0,.i .u8 0,.i .u8 0,.i .u8 0,.i .u8 0,.i .u8 0,.i .u8 0,.i .u8 0,.i .u8 0,.i .u8 0,.i .u8 0,.i .u8 0,.i .u8 0,.i .u8 0,.i .u8 0,.i .u8 0,.i .u8 0,.i .u8 0,.i .u8 0,.i .u8 0,.i .u8 0,.i .u8 0,.i .u8 0,.i .u8 0,.i .u8 0,.i .u8 0,.i .u8 0,.i .u8 0,.i .u8 0,.i .u8 0,.i .u8 0,.i .u8 0,.i .u8 0,.i .u8 0,.i .u8 0,.i .u8 0,.i .u8 0,.i .u8 0,.i .u8 0,.i .u8 0,.i .u8 0,.i .u8 0,.i .u8 0,.i .u8 0,.i .u8 0,.i .u8 0,.i .u8 0,.i .u8 0,.i .u8 0,.i .u8 0,.i .u8 0,.i .u8 0,.i .u8 0,.i .u8 0,.i .u8 0,.i .u8 0,.i .u8 0,.i .u8 0,.i .u8 0,.i .u8 0,.i .u8 0,.i .u8 0,.i .u8 0,.i .u8 0,.i .u8 0,.i .u8 0,.i .u8 0,.i .u8 0,.i .u8 0,.i .u8 0,.i .u8 0,.i .u8 0,.i .u8 0,.i .u8 0,.i .u8 0,.i .u8 0,.i .u8 0,.i .u8 0,.i .u8 0,.i .u8 0,.i .u8 0,.i .u8 0,.i .u8 0,.i .u8 0,.i .u8 0,.i .u8 0,.i .u8 0,.i .u8 0,.i .u8 0,.i .u8 0,.i .u8 0,.i .u8 0,.i .u8 0,.i .u8 0,.i .u8 0,.i .u8 0,.i .u8 0,.i .u8 0,.i .u8 0,.i .u8 0,.i .u8 0,.i .u8 0,.i .u8 0,.i .u8 0,.i .u8 0,.i .u8 0,.i .u8 0,.i .u8 0,.i .u8 0,.i .u8 0,.i .u8 0,.i .u8 0,.i .u8 0,.i .u8 0,.i .u8 0,.i .u8 0,.i .u8 0,.i .u8 0,.i .u8 0,.i .u8 0,.i .u8 0,.i .u8 0,.i .u8 0,.i .u8 0,.i .u8 0,.i .u8 0,.i .u8 0,.i .u8 0,.i .u8 0,.i .u8 0,.i .u8 0,.i .u8 0,.i .u8 0,.i .u8 0,.i .u8 0,.i .u8 0,.i .u8 0,.i .u8 0,.i .u8 0,.i .u8 0,.i .u8 0,.i .u8 0,.i .u8 0,.i .u8 0,.i .u8 0,.i .u8 0,.i .u8 0,.i .u8 0,.i .u8 0,.i .u8 0,.i .u8 0,.i .u8 0,.i .u8 0,.i .u8 0,.i .u8 0,.i .u8 0,.i .u8 0,.i .u8 0,.i .u8 0,.i .u8 0,.i .u8 0,.i .u8 0,.i .u8 0,.i .u8 0,.i .u8 0,.i .u8 0,.i .u8 0,.i .u8 0,.i .u8 0,.i .u8 0,.i .u8 0,.i .u8 0,.i .u8 0,.i .u8 0,.i .u8 0,.i .u8 0,.i .u8 0,.i .u8 0,.i .u8 0,.i .u8 0,.i .u8 0,.i .u8 0,.i .u8 0,.i .u8 0,.i .u8 0,.i .u8 0,.i .u8 0,.i .u8 0,.i .u8 0,.i .u8 0,.i .u8 0,.i .u8 0,.i .u8 0,.i .u8 0,.i .u8 0,.i .u8 0,.i .u8 0,.i .u8 0,.i .u8 0,.i .u8 0,.i .u8 0,.i .u8 0,.i .u8 0]⟩,
 ⟨.struct [(5,0),(5,1)],2,2,[.i .u8 0,.i .u8 0]⟩,⟨.struct [(5,0),(5,1)],2,2,[.i .u8 0,.i .u8 0]⟩,⟨.array 16 387,32,32,[.i .u8 0,.i .u8 0,.i .u8 0,.i .u8 0,.i .u8 0,.i .u8 0,.i .u8 0,.i .u8 0,.i .u8 0,.i .u8 0,.i .u8 0,.i .u8 0,.i .u8 0,.i .u8 0,.i .u8 0,.i .u8 0,.i .u8 0,.i .u8 0,.i .u8 0,.i .u8 0,.i .u8 0,.i .u8 0,.i .u8 0,.i .u8 0,.i .u8 0,.i .u8 0,.i .u8 0,.i .u8 0,.i .u8 0,.i .u8 0,.i .u8 0,.i .u8 0]⟩,
 mV,y0,y0,⟨.struct [(17,0),(17,1),(17,2),(9,3)],4,40,[.o (.pointer none),.o (.pointer none),.o (.pointer none),.s []]⟩,⟨.struct [(17,0),(17,1),(17,2),(9,3)],4,40,[.o (.pointer none),.o (.pointer none),.o (.pointer none),.s []]⟩,
 mV,mV,mV,y4,y4,y0,⟨.ptr 5,1,8,[.o (.pointer none)]⟩,y5,y5,⟨.struct [(12,0),(12,1),(293,2),(397,3),(5,4),(5,5),(398,6),(399,7),(400,8),(401,9),(402,10)],11,48,[.i .u64 0,.i .u64 0,.i .u32 0,.i .u8 0,.i .u8 0,.i .u8 0,.i .u8 0,.o .nilFunc,.o (.pointer none),.i .i32 0,.i .i32 0]⟩,
 ⟨.struct [(12,0),(12,1),(293,2),(397,3),(5,4),(5,5),(398,6),(399,7),(400,8),(401,9),(402,10)],11,48,[.i .u64 0,.i .u64 0,.i .u32 0,.i .u8 0,.i .u8 0,.i .u8 0,.i .u8 0,.o .nilFunc,.o (.pointer none),.i .i32 0,.i .i32 0]⟩,
 mV]
def tab:Tab:=fun t=>zMk.getD t mV
noncomputable def zMp (t:Nat):TI:=if [0,35,51,54,84,100,105,128,130,132,137,146,148,151,164,187,189,196,242,247,256,273,287,339,378,389,394,395,396,405].contains t then mV else zLt Tryz.prog t
theorem tabE:zMk=(List.range 406).map zMp:=by kernel_rfl
theorem aB:bT Tryz.prog tab:=fun t=>by
 unfold tab
 rw [tabE,List.getD_eq_getElem?_getD,List.getElem?_map]
 cases h:(List.range 406)[t]? with
 | none=>exact tN
 | some x =>
  obtain ⟨h1,h2⟩:=List.getElem?_eq_some_iff.1 h
  rw [List.getElem_range] at h2
  subst h2
  simp only [Option.map_some,Option.getD_some,zMp]
  split
  ·exact tN
  ·exact zIs
theorem tab1:tab 1=⟨.func,1,8,[.o .nilFunc]⟩:=rfl
theorem tab2:tab 2=⟨.int .i64,1,8,[.i .i64 0]⟩:=rfl
theorem tab3:tab 3=⟨.int .i64,1,8,[.i .i64 0]⟩:=rfl
theorem tab4:tab 4=⟨.bool,1,1,[.b false]⟩:=rfl
theorem tab5:tab 5=⟨.int .u8,1,1,[.i .u8 0]⟩:=rfl
theorem tab6:tab 6=⟨.int .u8,1,1,[.i .u8 0]⟩:=rfl
theorem tab7:tab 7=⟨.struct [(2,0),(3,1),(4,2),(6,3)],4,24,[.i .i64 0,.i .i64 0,.b false,.i .u8 0]⟩:=rfl
theorem tab8:tab 8=⟨.struct [(2,0),(3,1),(4,2),(6,3)],4,24,[.i .i64 0,.i .i64 0,.b false,.i .u8 0]⟩:=rfl
theorem tab9:tab 9=⟨.str,1,16,[.s []]⟩:=rfl
theorem tab10:tab 10=⟨.str,1,16,[.s []]⟩:=rfl
theorem tab11:tab 11=⟨.str,1,16,[.s []]⟩:=rfl
theorem tab12:tab 12=⟨.int .u64,1,8,[.i .u64 0]⟩:=rfl
theorem tab13:tab 13=⟨.struct [(9,0),(12,1)],2,24,[.s [],.i .u64 0]⟩:=rfl
theorem tab14:tab 14=⟨.struct [(9,0),(12,1)],2,24,[.s [],.i .u64 0]⟩:=rfl
theorem tab15:tab 15=⟨.ptr 393,1,8,[.o (.pointer none)]⟩:=rfl
theorem tab16:tab 16=⟨.ptr 396,1,8,[.o (.pointer none)]⟩:=rfl
theorem tab17:tab 17=⟨.ptr 404,1,8,[.o (.pointer none)]⟩:=rfl
theorem tab18:tab 18=⟨.struct [(17,0)],1,8,[.o (.pointer none)]⟩:=rfl
theorem tab19:tab 19=⟨.struct [(17,0)],1,8,[.o (.pointer none)]⟩:=rfl
theorem tab20:tab 20=⟨.iface,1,16,[.o .nilIface]⟩:=rfl
theorem tab21:tab 21=⟨.int .i32,1,4,[.i .i32 0]⟩:=rfl
theorem tab22:tab 22=⟨.slice 98,1,24,[.nil]⟩:=rfl
theorem tab23:tab 23=⟨.slice 119,1,24,[.nil]⟩:=rfl
theorem tab24:tab 24=⟨.ptr 93,1,8,[.o (.pointer none)]⟩:=rfl
theorem tab25:tab 25=⟨.func,1,8,[.o .nilFunc]⟩:=rfl
theorem tab26:tab 26=⟨.slice 121,1,24,[.nil]⟩:=rfl
theorem tab27:tab 27=⟨.func,1,8,[.o .nilFunc]⟩:=rfl
theorem tab28:tab 28=⟨.func,1,8,[.o .nilFunc]⟩:=rfl
theorem tab29:tab 29=⟨.int .i64,1,8,[.i .i64 0]⟩:=rfl
theorem tab30:tab 30=⟨.func,1,8,[.o .nilFunc]⟩:=rfl
theorem tab31:tab 31=⟨.slice 114,1,24,[.nil]⟩:=rfl
theorem tab32:tab 32=⟨.func,1,8,[.o .nilFunc]⟩:=rfl
theorem tab33:tab 33=⟨.func,1,8,[.o .nilFunc]⟩:=rfl
theorem tab34:tab 34=⟨.func,1,8,[.o .nilFunc]⟩:=rfl
theorem tab36:tab 36=⟨.func,1,8,[.o .nilFunc]⟩:=rfl
theorem tab37:tab 37=⟨.func,1,8,[.o .nilFunc]⟩:=rfl
theorem tab38:tab 38=⟨.func,1,8,[.o .nilFunc]⟩:=rfl
theorem tab39:tab 39=⟨.float,1,8,[.f 0]⟩:=rfl
theorem tab40:tab 40=⟨.slice 5,1,24,[.nil]⟩:=rfl
theorem tab41:tab 41=⟨.struct [(3,0),(3,1),(39,2),(40,3)],4,48,[.i .i64 0,.i .i64 0,.f 0,.nil]⟩:=rfl
theorem tab42:tab 42=⟨.struct [(3,0),(3,1),(39,2),(40,3)],4,48,[.i .i64 0,.i .i64 0,.f 0,.nil]⟩:=rfl
theorem tab43:tab 43=⟨.slice 9,1,24,[.nil]⟩:=rfl
theorem tab44:tab 44=⟨.struct [(29,0),(42,1),(40,5),(43,6)],7,104,[.i .i64 0,.i .i64 0,.i .i64 0,.f 0,.nil,.nil,.nil]⟩:=rfl
theorem tab45:tab 45=⟨.struct [(29,0),(42,1),(40,5),(43,6)],7,104,[.i .i64 0,.i .i64 0,.i .i64 0,.f 0,.nil,.nil,.nil]⟩:=rfl
theorem tab46:tab 46=⟨.func,1,8,[.o .nilFunc]⟩:=rfl
theorem tab47:tab 47=⟨.struct [(3,0),(9,1),(9,2),(3,3),(39,4),(3,5),(3,6),(40,7)],8,96,[.i .i64 0,.s [],.s [],.i .i64 0,.f 0,.i .i64 0,.i .i64 0,.nil]⟩:=rfl
theorem tab48:tab 48=⟨.struct [(3,0),(9,1),(9,2),(3,3),(39,4),(3,5),(3,6),(40,7)],8,96,[.i .i64 0,.s [],.s [],.i .i64 0,.f 0,.i .i64 0,.i .i64 0,.nil]⟩:=rfl
theorem tab49:tab 49=⟨.func,1,8,[.o .nilFunc]⟩:=rfl
theorem tab50:tab 50=⟨.slice 221,1,24,[.nil]⟩:=rfl
theorem tab52:tab 52=⟨.func,1,8,[.o .nilFunc]⟩:=rfl
theorem tab53:tab 53=⟨.func,1,8,[.o .nilFunc]⟩:=rfl
theorem tab55:tab 55=⟨.func,1,8,[.o .nilFunc]⟩:=rfl
theorem tab56:tab 56=⟨.func,1,8,[.o .nilFunc]⟩:=rfl
theorem tab57:tab 57=⟨.slice 68,1,24,[.nil]⟩:=rfl
theorem tab58:tab 58=⟨.slice 3,1,24,[.nil]⟩:=rfl
theorem tab59:tab 59=⟨.struct [(29,0),(45,1),(31,8),(50,9)],10,160,[.i .i64 0,.i .i64 0,.i .i64 0,.i .i64 0,.f 0,.nil,.nil,.nil,.nil,.nil]⟩:=rfl
theorem tab60:tab 60=⟨.struct [(29,0),(45,1),(31,8),(50,9)],10,160,[.i .i64 0,.i .i64 0,.i .i64 0,.i .i64 0,.f 0,.nil,.nil,.nil,.nil,.nil]⟩:=rfl
theorem tab61:tab 61=⟨.func,1,8,[.o .nilFunc]⟩:=rfl
theorem tab62:tab 62=⟨.struct [(3,0),(9,1),(9,2),(9,3),(48,4),(3,12),(40,13)],14,184,[.i .i64 0,.s [],.s [],.s [],.i .i64 0,.s [],.s [],.i .i64 0,.f 0,.i .i64 0,.i .i64 0,.nil,.i .i64 0,.nil]⟩:=rfl
theorem tab63:tab 63=⟨.struct [(3,0),(9,1),(9,2),(9,3),(48,4),(3,12),(40,13)],14,184,[.i .i64 0,.s [],.s [],.s [],.i .i64 0,.s [],.s [],.i .i64 0,.f 0,.i .i64 0,.i .i64 0,.nil,.i .i64 0,.nil]⟩:=rfl
theorem tab64:tab 64=⟨.func,1,8,[.o .nilFunc]⟩:=rfl
theorem tab65:tab 65=⟨.struct [(3,0),(3,1),(3,2),(3,3),(3,4),(3,5),(3,6),(3,7),(39,8),(40,9),(9,10)],11,112,[.i .i64 0,.i .i64 0,.i .i64 0,.i .i64 0,.i .i64 0,.i .i64 0,.i .i64 0,.i .i64 0,.f 0,.nil,.s []]⟩:=rfl
theorem tab66:tab 66=⟨.struct [(3,0),(3,1),(3,2),(3,3),(3,4),(3,5),(3,6),(3,7),(39,8),(40,9),(9,10)],11,112,[.i .i64 0,.i .i64 0,.i .i64 0,.i .i64 0,.i .i64 0,.i .i64 0,.i .i64 0,.i .i64 0,.f 0,.nil,.s []]⟩:=rfl
theorem tab67:tab 67=⟨.struct [(3,0),(3,1),(3,2),(3,3),(3,4),(66,5),(40,16)],17,176,[.i .i64 0,.i .i64 0,.i .i64 0,.i .i64 0,.i .i64 0,.i .i64 0,.i .i64 0,.i .i64 0,.i .i64 0,.i .i64 0,.i .i64 0,.i .i64 0,.i .i64 0,.f 0,.nil,.s [],.nil]⟩:=rfl
theorem tab68:tab 68=⟨.struct [(3,0),(3,1),(3,2),(3,3),(3,4),(66,5),(40,16)],17,176,[.i .i64 0,.i .i64 0,.i .i64 0,.i .i64 0,.i .i64 0,.i .i64 0,.i .i64 0,.i .i64 0,.i .i64 0,.i .i64 0,.i .i64 0,.i .i64 0,.i .i64 0,.f 0,.nil,.s [],.nil]⟩:=rfl
theorem tab69:tab 69=⟨.slice 76,1,24,[.nil]⟩:=rfl
theorem tab70:tab 70=⟨.func,1,8,[.o .nilFunc]⟩:=rfl
theorem tab71:tab 71=⟨.slice 90,1,24,[.nil]⟩:=rfl
theorem tab72:tab 72=⟨.func,1,8,[.o .nilFunc]⟩:=rfl
theorem tab73:tab 73=⟨.func,1,8,[.o .nilFunc]⟩:=rfl
theorem tab74:tab 74=⟨.slice 26,1,24,[.nil]⟩:=rfl
theorem tab75:tab 75=⟨.struct [(9,0),(3,1)],2,24,[.s [],.i .i64 0]⟩:=rfl
theorem tab76:tab 76=⟨.struct [(9,0),(3,1)],2,24,[.s [],.i .i64 0]⟩:=rfl
theorem tab77:tab 77=⟨.func,1,8,[.o .nilFunc]⟩:=rfl
theorem tab78:tab 78=⟨.func,1,8,[.o .nilFunc]⟩:=rfl
theorem tab79:tab 79=⟨.func,1,8,[.o .nilFunc]⟩:=rfl
theorem tab80:tab 80=⟨.slice 145,1,24,[.nil]⟩:=rfl
theorem tab81:tab 81=⟨.struct [(80,0),(69,1),(3,2)],3,56,[.nil,.nil,.i .i64 0]⟩:=rfl
theorem tab82:tab 82=⟨.struct [(80,0),(69,1),(3,2)],3,56,[.nil,.nil,.i .i64 0]⟩:=rfl
theorem tab83:tab 83=⟨.func,1,8,[.o .nilFunc]⟩:=rfl
theorem tab85:tab 85=⟨.func,1,8,[.o .nilFunc]⟩:=rfl
theorem tab86:tab 86=⟨.func,1,8,[.o .nilFunc]⟩:=rfl
theorem tab87:tab 87=⟨.func,1,8,[.o .nilFunc]⟩:=rfl
theorem tab88:tab 88=⟨.func,1,8,[.o .nilFunc]⟩:=rfl
theorem tab89:tab 89=⟨.struct [(3,0),(3,1),(3,2),(4,3)],4,32,[.i .i64 0,.i .i64 0,.i .i64 0,.b false]⟩:=rfl
theorem tab90:tab 90=⟨.struct [(3,0),(3,1),(3,2),(4,3)],4,32,[.i .i64 0,.i .i64 0,.i .i64 0,.b false]⟩:=rfl
theorem tab91:tab 91=⟨.map 3 135,1,8,[.o (.map none)]⟩:=rfl
theorem tab92:tab 92=⟨.struct [(69,0),(71,1),(91,2),(3,3)],4,64,[.nil,.nil,.o (.map none),.i .i64 0]⟩:=rfl
theorem tab93:tab 93=⟨.struct [(69,0),(71,1),(91,2),(3,3)],4,64,[.nil,.nil,.o (.map none),.i .i64 0]⟩:=rfl
theorem tab94:tab 94=⟨.func,1,8,[.o .nilFunc]⟩:=rfl
theorem tab95:tab 95=⟨.struct [(3,0),(3,1),(3,2),(39,3),(40,4)],5,56,[.i .i64 0,.i .i64 0,.i .i64 0,.f 0,.nil]⟩:=rfl
theorem tab96:tab 96=⟨.struct [(3,0),(3,1),(3,2),(39,3),(40,4)],5,56,[.i .i64 0,.i .i64 0,.i .i64 0,.f 0,.nil]⟩:=rfl
theorem tab97:tab 97=⟨.struct [(3,0),(96,1)],6,64,[.i .i64 0,.i .i64 0,.i .i64 0,.i .i64 0,.f 0,.nil]⟩:=rfl
theorem tab98:tab 98=⟨.struct [(3,0),(96,1)],6,64,[.i .i64 0,.i .i64 0,.i .i64 0,.i .i64 0,.f 0,.nil]⟩:=rfl
theorem tab99:tab 99=⟨.func,1,8,[.o .nilFunc]⟩:=rfl
theorem tab101:tab 101=⟨.func,1,8,[.o .nilFunc]⟩:=rfl
theorem tab102:tab 102=⟨.func,1,8,[.o .nilFunc]⟩:=rfl
theorem tab103:tab 103=⟨.func,1,8,[.o .nilFunc]⟩:=rfl
theorem tab104:tab 104=⟨.func,1,8,[.o .nilFunc]⟩:=rfl
theorem tab106:tab 106=⟨.func,1,8,[.o .nilFunc]⟩:=rfl
theorem tab107:tab 107=⟨.func,1,8,[.o .nilFunc]⟩:=rfl
theorem tab108:tab 108=⟨.func,1,8,[.o .nilFunc]⟩:=rfl
theorem tab109:tab 109=⟨.func,1,8,[.o .nilFunc]⟩:=rfl
theorem tab110:tab 110=⟨.func,1,8,[.o .nilFunc]⟩:=rfl
theorem tab111:tab 111=⟨.func,1,8,[.o .nilFunc]⟩:=rfl
theorem tab112:tab 112=⟨.func,1,8,[.o .nilFunc]⟩:=rfl
theorem tab113:tab 113=⟨.struct [(9,0),(3,1),(42,2),(42,6)],10,120,[.s [],.i .i64 0,.i .i64 0,.i .i64 0,.f 0,.nil,.i .i64 0,.i .i64 0,.f 0,.nil]⟩:=rfl
theorem tab114:tab 114=⟨.struct [(9,0),(3,1),(42,2),(42,6)],10,120,[.s [],.i .i64 0,.i .i64 0,.i .i64 0,.f 0,.nil,.i .i64 0,.i .i64 0,.f 0,.nil]⟩:=rfl
theorem tab115:tab 115=⟨.func,1,8,[.o .nilFunc]⟩:=rfl
theorem tab116:tab 116=⟨.func,1,8,[.o .nilFunc]⟩:=rfl
theorem tab117:tab 117=⟨.func,1,8,[.o .nilFunc]⟩:=rfl
theorem tab118:tab 118=⟨.struct [(3,0),(3,1),(3,2),(96,3)],8,80,[.i .i64 0,.i .i64 0,.i .i64 0,.i .i64 0,.i .i64 0,.i .i64 0,.f 0,.nil]⟩:=rfl
theorem tab119:tab 119=⟨.struct [(3,0),(3,1),(3,2),(96,3)],8,80,[.i .i64 0,.i .i64 0,.i .i64 0,.i .i64 0,.i .i64 0,.i .i64 0,.f 0,.nil]⟩:=rfl
theorem tab120:tab 120=⟨.struct [(9,0),(42,1)],5,64,[.s [],.i .i64 0,.i .i64 0,.f 0,.nil]⟩:=rfl
theorem tab121:tab 121=⟨.struct [(9,0),(42,1)],5,64,[.s [],.i .i64 0,.i .i64 0,.f 0,.nil]⟩:=rfl
theorem tab122:tab 122=⟨.func,1,8,[.o .nilFunc]⟩:=rfl
theorem tab123:tab 123=⟨.func,1,8,[.o .nilFunc]⟩:=rfl
theorem tab124:tab 124=⟨.func,1,8,[.o .nilFunc]⟩:=rfl
theorem tab125:tab 125=⟨.func,1,8,[.o .nilFunc]⟩:=rfl
theorem tab126:tab 126=⟨.func,1,8,[.o .nilFunc]⟩:=rfl
theorem tab127:tab 127=⟨.func,1,8,[.o .nilFunc]⟩:=rfl
theorem tab129:tab 129=⟨.func,1,8,[.o .nilFunc]⟩:=rfl
theorem tab131:tab 131=⟨.func,1,8,[.o .nilFunc]⟩:=rfl
theorem tab133:tab 133=⟨.func,1,8,[.o .nilFunc]⟩:=rfl
theorem tab134:tab 134=⟨.func,1,8,[.o .nilFunc]⟩:=rfl
theorem tab135:tab 135=⟨.slice 202,1,24,[.nil]⟩:=rfl
theorem tab136:tab 136=⟨.func,1,8,[.o .nilFunc]⟩:=rfl
theorem tab138:tab 138=⟨.func,1,8,[.o .nilFunc]⟩:=rfl
theorem tab139:tab 139=⟨.func,1,8,[.o .nilFunc]⟩:=rfl
theorem tab140:tab 140=⟨.func,1,8,[.o .nilFunc]⟩:=rfl
theorem tab141:tab 141=⟨.func,1,8,[.o .nilFunc]⟩:=rfl
theorem tab142:tab 142=⟨.func,1,8,[.o .nilFunc]⟩:=rfl
theorem tab143:tab 143=⟨.func,1,8,[.o .nilFunc]⟩:=rfl
theorem tab144:tab 144=⟨.struct [(90,0),(26,4)],5,56,[.i .i64 0,.i .i64 0,.i .i64 0,.b false,.nil]⟩:=rfl
theorem tab145:tab 145=⟨.struct [(90,0),(26,4)],5,56,[.i .i64 0,.i .i64 0,.i .i64 0,.b false,.nil]⟩:=rfl
theorem tab147:tab 147=⟨.func,1,8,[.o .nilFunc]⟩:=rfl
theorem tab149:tab 149=⟨.func,1,8,[.o .nilFunc]⟩:=rfl
theorem tab150:tab 150=⟨.func,1,8,[.o .nilFunc]⟩:=rfl
theorem tab152:tab 152=⟨.func,1,8,[.o .nilFunc]⟩:=rfl
theorem tab153:tab 153=⟨.func,1,8,[.o .nilFunc]⟩:=rfl
theorem tab154:tab 154=⟨.func,1,8,[.o .nilFunc]⟩:=rfl
theorem tab155:tab 155=⟨.func,1,8,[.o .nilFunc]⟩:=rfl
theorem tab156:tab 156=⟨.func,1,8,[.o .nilFunc]⟩:=rfl
theorem tab157:tab 157=⟨.func,1,8,[.o .nilFunc]⟩:=rfl
theorem tab158:tab 158=⟨.func,1,8,[.o .nilFunc]⟩:=rfl
theorem tab159:tab 159=⟨.func,1,8,[.o .nilFunc]⟩:=rfl
theorem tab160:tab 160=⟨.func,1,8,[.o .nilFunc]⟩:=rfl
theorem tab161:tab 161=⟨.func,1,8,[.o .nilFunc]⟩:=rfl
theorem tab162:tab 162=⟨.func,1,8,[.o .nilFunc]⟩:=rfl
theorem tab163:tab 163=⟨.func,1,8,[.o .nilFunc]⟩:=rfl
theorem tab165:tab 165=⟨.func,1,8,[.o .nilFunc]⟩:=rfl
theorem tab166:tab 166=⟨.func,1,8,[.o .nilFunc]⟩:=rfl
theorem tab167:tab 167=⟨.map 9 4,1,8,[.o (.map none)]⟩:=rfl
theorem tab168:tab 168=⟨.func,1,8,[.o .nilFunc]⟩:=rfl
theorem tab169:tab 169=⟨.func,1,8,[.o .nilFunc]⟩:=rfl
theorem tab170:tab 170=⟨.func,1,8,[.o .nilFunc]⟩:=rfl
theorem tab171:tab 171=⟨.func,1,8,[.o .nilFunc]⟩:=rfl
theorem tab172:tab 172=⟨.func,1,8,[.o .nilFunc]⟩:=rfl
theorem tab173:tab 173=⟨.func,1,8,[.o .nilFunc]⟩:=rfl
theorem tab174:tab 174=⟨.func,1,8,[.o .nilFunc]⟩:=rfl
theorem tab175:tab 175=⟨.func,1,8,[.o .nilFunc]⟩:=rfl
theorem tab176:tab 176=⟨.func,1,8,[.o .nilFunc]⟩:=rfl
theorem tab177:tab 177=⟨.func,1,8,[.o .nilFunc]⟩:=rfl
theorem tab178:tab 178=⟨.func,1,8,[.o .nilFunc]⟩:=rfl
theorem tab179:tab 179=⟨.func,1,8,[.o .nilFunc]⟩:=rfl
theorem tab180:tab 180=⟨.func,1,8,[.o .nilFunc]⟩:=rfl
theorem tab181:tab 181=⟨.func,1,8,[.o .nilFunc]⟩:=rfl
theorem tab182:tab 182=⟨.func,1,8,[.o .nilFunc]⟩:=rfl
theorem tab183:tab 183=⟨.func,1,8,[.o .nilFunc]⟩:=rfl
theorem tab184:tab 184=⟨.int .u64,1,8,[.i .u64 0]⟩:=rfl
theorem tab185:tab 185=⟨.array 12 39,12,96,[.f 0,.f 0,.f 0,.f 0,.f 0,.f 0,.f 0,.f 0,.f 0,.f 0,.f 0,.f 0]⟩:=rfl
theorem tab186:tab 186=⟨.func,1,8,[.o .nilFunc]⟩:=rfl
theorem tab188:tab 188=⟨.func,1,8,[.o .nilFunc]⟩:=rfl
theorem tab190:tab 190=⟨.func,1,8,[.o .nilFunc]⟩:=rfl
theorem tab191:tab 191=⟨.struct [(26,0),(9,1),(4,2),(42,3)],7,96,[.nil,.s [],.b false,.i .i64 0,.i .i64 0,.f 0,.nil]⟩:=rfl
theorem tab192:tab 192=⟨.struct [(26,0),(9,1),(4,2),(42,3)],7,96,[.nil,.s [],.b false,.i .i64 0,.i .i64 0,.f 0,.nil]⟩:=rfl
theorem tab193:tab 193=⟨.func,1,8,[.o .nilFunc]⟩:=rfl
theorem tab194:tab 194=⟨.func,1,8,[.o .nilFunc]⟩:=rfl
theorem tab195:tab 195=⟨.func,1,8,[.o .nilFunc]⟩:=rfl
theorem tab197:tab 197=⟨.func,1,8,[.o .nilFunc]⟩:=rfl
theorem tab198:tab 198=⟨.func,1,8,[.o .nilFunc]⟩:=rfl
theorem tab199:tab 199=⟨.struct [(26,0),(26,1)],2,48,[.nil,.nil]⟩:=rfl
theorem tab200:tab 200=⟨.struct [(26,0),(26,1)],2,48,[.nil,.nil]⟩:=rfl
theorem tab201:tab 201=⟨.struct [(9,0),(3,1),(4,2),(42,3)],7,80,[.s [],.i .i64 0,.b false,.i .i64 0,.i .i64 0,.f 0,.nil]⟩:=rfl
theorem tab202:tab 202=⟨.struct [(9,0),(3,1),(4,2),(42,3)],7,80,[.s [],.i .i64 0,.b false,.i .i64 0,.i .i64 0,.f 0,.nil]⟩:=rfl
theorem tab203:tab 203=⟨.func,1,8,[.o .nilFunc]⟩:=rfl
theorem tab204:tab 204=⟨.func,1,8,[.o .nilFunc]⟩:=rfl
theorem tab205:tab 205=⟨.func,1,8,[.o .nilFunc]⟩:=rfl
theorem tab206:tab 206=⟨.func,1,8,[.o .nilFunc]⟩:=rfl
theorem tab207:tab 207=⟨.func,1,8,[.o .nilFunc]⟩:=rfl
theorem tab208:tab 208=⟨.func,1,8,[.o .nilFunc]⟩:=rfl
theorem tab209:tab 209=⟨.func,1,8,[.o .nilFunc]⟩:=rfl
theorem tab210:tab 210=⟨.func,1,8,[.o .nilFunc]⟩:=rfl
theorem tab211:tab 211=⟨.array 7 9,7,112,[.s [],.s [],.s [],.s [],.s [],.s [],.s []]⟩:=rfl
theorem tab212:tab 212=⟨.array 24 3,24,192,[.i .i64 0,.i .i64 0,.i .i64 0,.i .i64 0,.i .i64 0,.i .i64 0,.i .i64 0,.i .i64 0,.i .i64 0,.i .i64 0,.i .i64 0,.i .i64 0,.i .i64 0,.i .i64 0,.i .i64 0,.i .i64 0,.i .i64 0,.i .i64 0,.i .i64 0,.i .i64 0,.i .i64 0,.i .i64 0,.i .i64 0,.i .i64 0]⟩:=rfl
theorem tab213:tab 213=⟨.func,1,8,[.o .nilFunc]⟩:=rfl
theorem tab214:tab 214=⟨.slice 4,1,24,[.nil]⟩:=rfl
theorem tab215:tab 215=⟨.func,1,8,[.o .nilFunc]⟩:=rfl
theorem tab216:tab 216=⟨.func,1,8,[.o .nilFunc]⟩:=rfl
theorem tab217:tab 217=⟨.func,1,8,[.o .nilFunc]⟩:=rfl
theorem tab218:tab 218=⟨.func,1,8,[.o .nilFunc]⟩:=rfl
theorem tab219:tab 219=⟨.func,1,8,[.o .nilFunc]⟩:=rfl
theorem tab220:tab 220=⟨.struct [(9,0),(3,1)],2,24,[.s [],.i .i64 0]⟩:=rfl
theorem tab221:tab 221=⟨.struct [(9,0),(3,1)],2,24,[.s [],.i .i64 0]⟩:=rfl
theorem tab222:tab 222=⟨.func,1,8,[.o .nilFunc]⟩:=rfl
theorem tab223:tab 223=⟨.array 6 9,6,96,[.s [],.s [],.s [],.s [],.s [],.s []]⟩:=rfl
theorem tab224:tab 224=⟨.func,1,8,[.o .nilFunc]⟩:=rfl
theorem tab225:tab 225=⟨.func,1,8,[.o .nilFunc]⟩:=rfl
theorem tab226:tab 226=⟨.func,1,8,[.o .nilFunc]⟩:=rfl
theorem tab227:tab 227=⟨.slice 135,1,24,[.nil]⟩:=rfl
theorem tab228:tab 228=⟨.func,1,8,[.o .nilFunc]⟩:=rfl
theorem tab229:tab 229=⟨.func,1,8,[.o .nilFunc]⟩:=rfl
theorem tab230:tab 230=⟨.func,1,8,[.o .nilFunc]⟩:=rfl
theorem tab231:tab 231=⟨.func,1,8,[.o .nilFunc]⟩:=rfl
theorem tab232:tab 232=⟨.func,1,8,[.o .nilFunc]⟩:=rfl
theorem tab233:tab 233=⟨.int .u64,1,8,[.i .u64 0]⟩:=rfl
theorem tab234:tab 234=⟨.func,1,8,[.o .nilFunc]⟩:=rfl
theorem tab235:tab 235=⟨.func,1,8,[.o .nilFunc]⟩:=rfl
theorem tab236:tab 236=⟨.func,1,8,[.o .nilFunc]⟩:=rfl
theorem tab237:tab 237=⟨.func,1,8,[.o .nilFunc]⟩:=rfl
theorem tab238:tab 238=⟨.func,1,8,[.o .nilFunc]⟩:=rfl
theorem tab239:tab 239=⟨.func,1,8,[.o .nilFunc]⟩:=rfl
theorem tab240:tab 240=⟨.func,1,8,[.o .nilFunc]⟩:=rfl
theorem tab241:tab 241=⟨.func,1,8,[.o .nilFunc]⟩:=rfl
theorem tab243:tab 243=⟨.func,1,8,[.o .nilFunc]⟩:=rfl
theorem tab244:tab 244=⟨.ptr 246,1,8,[.o (.pointer none)]⟩:=rfl
theorem tab245:tab 245=⟨.struct [(26,0),(9,1),(43,2),(3,3)],4,72,[.nil,.s [],.nil,.i .i64 0]⟩:=rfl
theorem tab246:tab 246=⟨.struct [(26,0),(9,1),(43,2),(3,3)],4,72,[.nil,.s [],.nil,.i .i64 0]⟩:=rfl
theorem tab248:tab 248=⟨.func,1,8,[.o .nilFunc]⟩:=rfl
theorem tab249:tab 249=⟨.func,1,8,[.o .nilFunc]⟩:=rfl
theorem tab250:tab 250=⟨.func,1,8,[.o .nilFunc]⟩:=rfl
theorem tab251:tab 251=⟨.func,1,8,[.o .nilFunc]⟩:=rfl
theorem tab252:tab 252=⟨.func,1,8,[.o .nilFunc]⟩:=rfl
theorem tab253:tab 253=⟨.func,1,8,[.o .nilFunc]⟩:=rfl
theorem tab254:tab 254=⟨.func,1,8,[.o .nilFunc]⟩:=rfl
theorem tab255:tab 255=⟨.func,1,8,[.o .nilFunc]⟩:=rfl
theorem tab257:tab 257=⟨.func,1,8,[.o .nilFunc]⟩:=rfl
theorem tab258:tab 258=⟨.func,1,8,[.o .nilFunc]⟩:=rfl
theorem tab259:tab 259=⟨.func,1,8,[.o .nilFunc]⟩:=rfl
theorem tab260:tab 260=⟨.func,1,8,[.o .nilFunc]⟩:=rfl
theorem tab261:tab 261=⟨.func,1,8,[.o .nilFunc]⟩:=rfl
theorem tab262:tab 262=⟨.map 3 4,1,8,[.o (.map none)]⟩:=rfl
theorem tab263:tab 263=⟨.func,1,8,[.o .nilFunc]⟩:=rfl
theorem tab264:tab 264=⟨.func,1,8,[.o .nilFunc]⟩:=rfl
theorem tab265:tab 265=⟨.func,1,8,[.o .nilFunc]⟩:=rfl
theorem tab266:tab 266=⟨.func,1,8,[.o .nilFunc]⟩:=rfl
theorem tab267:tab 267=⟨.func,1,8,[.o .nilFunc]⟩:=rfl
theorem tab268:tab 268=⟨.func,1,8,[.o .nilFunc]⟩:=rfl
theorem tab269:tab 269=⟨.func,1,8,[.o .nilFunc]⟩:=rfl
theorem tab270:tab 270=⟨.func,1,8,[.o .nilFunc]⟩:=rfl
theorem tab271:tab 271=⟨.slice 276,1,24,[.nil]⟩:=rfl
theorem tab272:tab 272=⟨.func,1,8,[.o .nilFunc]⟩:=rfl
theorem tab274:tab 274=⟨.func,1,8,[.o .nilFunc]⟩:=rfl
theorem tab275:tab 275=⟨.struct [(9,0),(9,1)],2,32,[.s [],.s []]⟩:=rfl
theorem tab276:tab 276=⟨.struct [(9,0),(9,1)],2,32,[.s [],.s []]⟩:=rfl
theorem tab277:tab 277=⟨.func,1,8,[.o .nilFunc]⟩:=rfl
theorem tab278:tab 278=⟨.func,1,8,[.o .nilFunc]⟩:=rfl
theorem tab279:tab 279=⟨.func,1,8,[.o .nilFunc]⟩:=rfl
theorem tab280:tab 280=⟨.ptr 282,1,8,[.o (.pointer none)]⟩:=rfl
theorem tab281:tab 281=⟨.struct [(40,0)],1,24,[.nil]⟩:=rfl
theorem tab282:tab 282=⟨.struct [(40,0)],1,24,[.nil]⟩:=rfl
theorem tab283:tab 283=⟨.func,1,8,[.o .nilFunc]⟩:=rfl
theorem tab284:tab 284=⟨.func,1,8,[.o .nilFunc]⟩:=rfl
theorem tab285:tab 285=⟨.func,1,8,[.o .nilFunc]⟩:=rfl
theorem tab286:tab 286=⟨.int .i64,1,8,[.i .i64 0]⟩:=rfl
theorem tab288:tab 288=⟨.func,1,8,[.o .nilFunc]⟩:=rfl
theorem tab289:tab 289=⟨.func,1,8,[.o .nilFunc]⟩:=rfl
theorem tab290:tab 290=⟨.func,1,8,[.o .nilFunc]⟩:=rfl
theorem tab291:tab 291=⟨.func,1,8,[.o .nilFunc]⟩:=rfl
theorem tab292:tab 292=⟨.func,1,8,[.o .nilFunc]⟩:=rfl
theorem tab293:tab 293=⟨.int .u32,1,4,[.i .u32 0]⟩:=rfl
theorem tab294:tab 294=⟨.func,1,8,[.o .nilFunc]⟩:=rfl
theorem tab295:tab 295=⟨.func,1,8,[.o .nilFunc]⟩:=rfl
theorem tab296:tab 296=⟨.func,1,8,[.o .nilFunc]⟩:=rfl
theorem tab297:tab 297=⟨.func,1,8,[.o .nilFunc]⟩:=rfl
theorem tab298:tab 298=⟨.func,1,8,[.o .nilFunc]⟩:=rfl
theorem tab299:tab 299=⟨.func,1,8,[.o .nilFunc]⟩:=rfl
theorem tab300:tab 300=⟨.func,1,8,[.o .nilFunc]⟩:=rfl
theorem tab301:tab 301=⟨.func,1,8,[.o .nilFunc]⟩:=rfl
theorem tab302:tab 302=⟨.func,1,8,[.o .nilFunc]⟩:=rfl
theorem tab303:tab 303=⟨.func,1,8,[.o .nilFunc]⟩:=rfl
theorem tab304:tab 304=⟨.func,1,8,[.o .nilFunc]⟩:=rfl
theorem tab305:tab 305=⟨.func,1,8,[.o .nilFunc]⟩:=rfl
theorem tab306:tab 306=⟨.func,1,8,[.o .nilFunc]⟩:=rfl
theorem tab307:tab 307=⟨.func,1,8,[.o .nilFunc]⟩:=rfl
theorem tab308:tab 308=⟨.func,1,8,[.o .nilFunc]⟩:=rfl
theorem tab309:tab 309=⟨.func,1,8,[.o .nilFunc]⟩:=rfl
theorem tab310:tab 310=⟨.slice 50,1,24,[.nil]⟩:=rfl
theorem tab311:tab 311=⟨.func,1,8,[.o .nilFunc]⟩:=rfl
theorem tab312:tab 312=⟨.func,1,8,[.o .nilFunc]⟩:=rfl
theorem tab313:tab 313=⟨.func,1,8,[.o .nilFunc]⟩:=rfl
theorem tab314:tab 314=⟨.func,1,8,[.o .nilFunc]⟩:=rfl
theorem tab315:tab 315=⟨.func,1,8,[.o .nilFunc]⟩:=rfl
theorem tab316:tab 316=⟨.func,1,8,[.o .nilFunc]⟩:=rfl
theorem tab317:tab 317=⟨.func,1,8,[.o .nilFunc]⟩:=rfl
theorem tab318:tab 318=⟨.func,1,8,[.o .nilFunc]⟩:=rfl
theorem tab319:tab 319=⟨.func,1,8,[.o .nilFunc]⟩:=rfl
theorem tab320:tab 320=⟨.func,1,8,[.o .nilFunc]⟩:=rfl
theorem tab321:tab 321=⟨.func,1,8,[.o .nilFunc]⟩:=rfl
theorem tab322:tab 322=⟨.func,1,8,[.o .nilFunc]⟩:=rfl
theorem tab323:tab 323=⟨.func,1,8,[.o .nilFunc]⟩:=rfl
theorem tab324:tab 324=⟨.func,1,8,[.o .nilFunc]⟩:=rfl
theorem tab325:tab 325=⟨.func,1,8,[.o .nilFunc]⟩:=rfl
theorem tab326:tab 326=⟨.func,1,8,[.o .nilFunc]⟩:=rfl
theorem tab327:tab 327=⟨.func,1,8,[.o .nilFunc]⟩:=rfl
theorem tab328:tab 328=⟨.func,1,8,[.o .nilFunc]⟩:=rfl
theorem tab329:tab 329=⟨.func,1,8,[.o .nilFunc]⟩:=rfl
theorem tab330:tab 330=⟨.func,1,8,[.o .nilFunc]⟩:=rfl
theorem tab331:tab 331=⟨.func,1,8,[.o .nilFunc]⟩:=rfl
theorem tab332:tab 332=⟨.int .u64,1,8,[.i .u64 0]⟩:=rfl
theorem tab333:tab 333=⟨.func,1,8,[.o .nilFunc]⟩:=rfl
theorem tab334:tab 334=⟨.func,1,8,[.o .nilFunc]⟩:=rfl
theorem tab335:tab 335=⟨.func,1,8,[.o .nilFunc]⟩:=rfl
theorem tab336:tab 336=⟨.ptr 3,1,8,[.o (.pointer none)]⟩:=rfl
theorem tab337:tab 337=⟨.func,1,8,[.o .nilFunc]⟩:=rfl
theorem tab338:tab 338=⟨.func,1,8,[.o .nilFunc]⟩:=rfl
theorem tab340:tab 340=⟨.func,1,8,[.o .nilFunc]⟩:=rfl
theorem tab341:tab 341=⟨.func,1,8,[.o .nilFunc]⟩:=rfl
theorem tab342:tab 342=⟨.func,1,8,[.o .nilFunc]⟩:=rfl
theorem tab343:tab 343=⟨.func,1,8,[.o .nilFunc]⟩:=rfl
theorem tab344:tab 344=⟨.slice 40,1,24,[.nil]⟩:=rfl
theorem tab345:tab 345=⟨.func,1,8,[.o .nilFunc]⟩:=rfl
theorem tab346:tab 346=⟨.func,1,8,[.o .nilFunc]⟩:=rfl
theorem tab347:tab 347=⟨.func,1,8,[.o .nilFunc]⟩:=rfl
theorem tab348:tab 348=⟨.func,1,8,[.o .nilFunc]⟩:=rfl
theorem tab349:tab 349=⟨.func,1,8,[.o .nilFunc]⟩:=rfl
theorem tab350:tab 350=⟨.func,1,8,[.o .nilFunc]⟩:=rfl
theorem tab351:tab 351=⟨.func,1,8,[.o .nilFunc]⟩:=rfl
theorem tab352:tab 352=⟨.func,1,8,[.o .nilFunc]⟩:=rfl
theorem tab353:tab 353=⟨.func,1,8,[.o .nilFunc]⟩:=rfl
theorem tab354:tab 354=⟨.func,1,8,[.o .nilFunc]⟩:=rfl
theorem tab355:tab 355=⟨.func,1,8,[.o .nilFunc]⟩:=rfl
theorem tab356:tab 356=⟨.func,1,8,[.o .nilFunc]⟩:=rfl
theorem tab357:tab 357=⟨.func,1,8,[.o .nilFunc]⟩:=rfl
theorem tab358:tab 358=⟨.func,1,8,[.o .nilFunc]⟩:=rfl
theorem tab359:tab 359=⟨.func,1,8,[.o .nilFunc]⟩:=rfl
theorem tab360:tab 360=⟨.func,1,8,[.o .nilFunc]⟩:=rfl
theorem tab361:tab 361=⟨.func,1,8,[.o .nilFunc]⟩:=rfl
theorem tab362:tab 362=⟨.func,1,8,[.o .nilFunc]⟩:=rfl
theorem tab363:tab 363=⟨.ptr 332,1,8,[.o (.pointer none)]⟩:=rfl
theorem tab364:tab 364=⟨.func,1,8,[.o .nilFunc]⟩:=rfl
theorem tab365:tab 365=⟨.func,1,8,[.o .nilFunc]⟩:=rfl
theorem tab366:tab 366=⟨.slice 43,1,24,[.nil]⟩:=rfl
theorem tab367:tab 367=⟨.func,1,8,[.o .nilFunc]⟩:=rfl
theorem tab368:tab 368=⟨.func,1,8,[.o .nilFunc]⟩:=rfl
theorem tab369:tab 369=⟨.func,1,8,[.o .nilFunc]⟩:=rfl
theorem tab370:tab 370=⟨.func,1,8,[.o .nilFunc]⟩:=rfl
theorem tab371:tab 371=⟨.func,1,8,[.o .nilFunc]⟩:=rfl
theorem tab372:tab 372=⟨.func,1,8,[.o .nilFunc]⟩:=rfl
theorem tab373:tab 373=⟨.func,1,8,[.o .nilFunc]⟩:=rfl
theorem tab374:tab 374=⟨.func,1,8,[.o .nilFunc]⟩:=rfl
theorem tab375:tab 375=⟨.func,1,8,[.o .nilFunc]⟩:=rfl
theorem tab376:tab 376=⟨.func,1,8,[.o .nilFunc]⟩:=rfl
theorem tab377:tab 377=⟨.func,1,8,[.o .nilFunc]⟩:=rfl
theorem tab379:tab 379=⟨.func,1,8,[.o .nilFunc]⟩:=rfl
theorem tab380:tab 380=⟨.func,1,8,[.o .nilFunc]⟩:=rfl
theorem tab381:tab 381=⟨.func,1,8,[.o .nilFunc]⟩:=rfl
theorem tab382:tab 382=⟨.func,1,8,[.o .nilFunc]⟩:=rfl
theorem tab383:tab 383=⟨.func,1,8,[.o .nilFunc]⟩:=rfl
theorem tab384:tab 384=⟨.func,1,8,[.o .nilFunc]⟩:=rfl
theorem tab385:tab 385=⟨.array 256 5,256,256,[.i .u8 0,.i .u8 0,.i .u8 0,.i .u8 0,.i .u8 0,.i .u8 0,.i .u8 0,.i .u8 0,.i .u8 0,.i .u8 0,.i .u8 0,.i .u8 0,.i .u8 0,.i .u8 0,.i .u8 0,.i .u8 0,.i .u8 0,.i .u8 0,.i .u8 0,.i .u8 0,.i .u8 0,.i .u8 0,.i .u8 0,.i .u8 0,.i .u8 0,.i .u8 0,.i .u8 0,.i .u8 0,.i .u8 0,.i .u8 0,.i .u8 0,.i .u8 0,.i .u8 0,.i .u8 0,.i .u8 0,.i .u8 0,.i .u8 0,.i .u8 0,.i .u8 0,.i .u8 0,.i .u8 0,.i .u8 0,.i .u8 0,.i .u8 0,.i .u8 0,.i .u8 0,.i .u8 0,.i .u8 0,.i .u8 0,.i .u8 0,.i .u8 0,.i .u8 0,.i .u8 0,.i .u8 0,.i .u8 0,.i .u8 0,.i .u8 0,.i .u8 0,.i .u8 0,.i .u8 0,.i .u8 0,.i .u8 0,.i .u8 0,.i .u8 0,.i .u8 0,.i .u8 0,.i .u8 0,.i .u8 0,.i .u8 0,.i .u8 0,.i .u8 0,.i .u8 0,.i .u8 0,.i .u8 0,.i .u8 0,.i .u8 0,.i .u8 0,.i .u8 0,.i .u8 0,.i .u8 0,.i .u8 0,.i .u8 0,.i .u8 0,.i .u8 0,.i .u8 0,.i .u8 0,.i .u8 0,.i .u8 0,.i .u8 0,.i .u8 0,.i .u8 0,.i .u8 0,.i .u8 0,.i .u8 0,.i .u8 0,.i .u8 0,.i .u8 0,.i .u8 0,.i .u8 0,.i .u8 0,.i .u8 0,.i .u8 0,.i .u8 0,.i .u8 0,.i .u8 0,.i .u8 0,.i .u8 0,.i .u8 0,.i .u8 0,.i .u8 0,.i .u8 0,.i .u8 0,.i .u8 0,.i .u8 0,.i .u8 0,.i .u8 0,.i .u8 0,.i .u8 0,.i .u8 0,.i .u8 0,.i .u8 0,.i .u8 0,.i .u8 0,.i .u8 0,.i .u8 0,.i .u8 0,.i .u8 0,.i .u8 0,.i .u8 0,.i .u8 0,.i .u8 0,.i .u8 0,.i .u8 0,.i .u8 0,.i .u8 0,.i .u8 0,.i .u8 0,.i .u8 0,.i .u8 0,.i .u8 0,.i .u8 0,.i .u8 0,.i .u8 0,.i .u8 0,.i .u8 0,.i .u8 0,.i .u8 0,.i .u8 0,.i .u8 0,.i .u8 0,.i .u8 0,.i .u8 0,.i .u8 0,.i .u8 0,.i .u8 0,.i .u8 0,.i .u8 0,.i .u8 0,.i .u8 0,.i .u8 0,.i .u8 0,.i .u8 0,.i .u8 0,.i .u8 0,.i .u8 0,.i .u8 0,.i .u8 0,.i .u8 0,.i .u8 0,.i .u8 0,.i .u8 0,.i .u8 0,.i .u8 0,.i .u8 0,.i .u8 0,.i .u8 0,.i .u8 0,.i .u8 0,.i .u8 0,.i .u8 0,.i .u8 0,.i .u8 0,.i .u8 0,.i .u8 0,.i .u8 0,.i .u8 0,.i .u8 0,.i .u8 0,.i .u8 0,.i .u8 0,.i .u8 0,.i .u8 0,.i .u8 0,.i .u8 0,.i .u8 0,.i .u8 0,.i .u8 0,.i .u8 0,.i .u8 0,.i .u8 0,.i .u8 0,.i .u8 0,.i .u8 0,.i .u8 0,.i .u8 0,.i .u8 0,.i .u8 0,.i .u8 0,.i .u8 0,.i .u8 0,.i .u8 0,.i .u8 0,.i .u8 0,.i .u8 0,.i .u8 0,.i .u8 0,.i .u8 0,.i .u8 0,.i .u8 0,.i .u8 0,.i .u8 0,.i .u8 0,.i .u8 0,.i .u8 0,.i .u8 0,.i .u8 0,.i .u8 0,.i .u8 0,.i .u8 0,.i .u8 0,.i .u8 0,.i .u8 0,.i .u8 0,.i .u8 0,.i .u8 0,.i .u8 0,.i .u8 0,.i .u8 0,.i .u8 0,.i .u8 0,.i .u8 0,.i .u8 0,.i .u8 0,.i .u8 0,.i .u8 0,.i .u8 0,.i .u8 0,.i .u8 0,.i .u8 0,.i .u8 0,.i .u8 0,.i .u8 0,.i .u8 0,.i .u8 0,.i .u8 0,.i .u8 0]⟩:=rfl
theorem tab386:tab 386=⟨.struct [(5,0),(5,1)],2,2,[.i .u8 0,.i .u8 0]⟩:=rfl
theorem tab387:tab 387=⟨.struct [(5,0),(5,1)],2,2,[.i .u8 0,.i .u8 0]⟩:=rfl
theorem tab388:tab 388=⟨.array 16 387,32,32,[.i .u8 0,.i .u8 0,.i .u8 0,.i .u8 0,.i .u8 0,.i .u8 0,.i .u8 0,.i .u8 0,.i .u8 0,.i .u8 0,.i .u8 0,.i .u8 0,.i .u8 0,.i .u8 0,.i .u8 0,.i .u8 0,.i .u8 0,.i .u8 0,.i .u8 0,.i .u8 0,.i .u8 0,.i .u8 0,.i .u8 0,.i .u8 0,.i .u8 0,.i .u8 0,.i .u8 0,.i .u8 0,.i .u8 0,.i .u8 0,.i .u8 0,.i .u8 0]⟩:=rfl
theorem tab390:tab 390=⟨.func,1,8,[.o .nilFunc]⟩:=rfl
theorem tab391:tab 391=⟨.func,1,8,[.o .nilFunc]⟩:=rfl
theorem tab392:tab 392=⟨.struct [(17,0),(17,1),(17,2),(9,3)],4,40,[.o (.pointer none),.o (.pointer none),.o (.pointer none),.s []]⟩:=rfl
theorem tab393:tab 393=⟨.struct [(17,0),(17,1),(17,2),(9,3)],4,40,[.o (.pointer none),.o (.pointer none),.o (.pointer none),.s []]⟩:=rfl
theorem tab397:tab 397=⟨.int .u8,1,1,[.i .u8 0]⟩:=rfl
theorem tab398:tab 398=⟨.int .u8,1,1,[.i .u8 0]⟩:=rfl
theorem tab399:tab 399=⟨.func,1,8,[.o .nilFunc]⟩:=rfl
theorem tab400:tab 400=⟨.ptr 5,1,8,[.o (.pointer none)]⟩:=rfl
theorem tab401:tab 401=⟨.int .i32,1,4,[.i .i32 0]⟩:=rfl
theorem tab402:tab 402=⟨.int .i32,1,4,[.i .i32 0]⟩:=rfl
theorem tab403:tab 403=⟨.struct [(12,0),(12,1),(293,2),(397,3),(5,4),(5,5),(398,6),(399,7),(400,8),(401,9),(402,10)],11,48,[.i .u64 0,.i .u64 0,.i .u32 0,.i .u8 0,.i .u8 0,.i .u8 0,.i .u8 0,.o .nilFunc,.o (.pointer none),.i .i32 0,.i .i32 0]⟩:=rfl
theorem tab404:tab 404=⟨.struct [(12,0),(12,1),(293,2),(397,3),(5,4),(5,5),(398,6),(399,7),(400,8),(401,9),(402,10)],11,48,[.i .u64 0,.i .u64 0,.i .u32 0,.i .u8 0,.i .u8 0,.i .u8 0,.i .u8 0,.o .nilFunc,.o (.pointer none),.i .i32 0,.i .i32 0]⟩:=rfl
theorem aK:Tryz.prog.follows .mixedOrders=true:=by kernel_rfl
attribute [go_sem] tab1 tab2 tab3 tab4 tab5 tab6 tab7 tab8 tab9 tab10 tab11 tab12 tab13 tab14 tab15 tab16 tab17 tab18 tab19 tab20 tab21 tab22 tab23 tab24 tab25 tab26 tab27 tab28 tab29 tab30 tab31 tab32 tab33 tab34 tab36 tab37 tab38 tab39 tab40 tab41 tab42 tab43 tab44 tab45 tab46 tab47 tab48 tab49 tab50 tab52 tab53 tab55 tab56 tab57 tab58 tab59 tab60 tab61 tab62 tab63 tab64 tab65 tab66 tab67 tab68 tab69 tab70 tab71 tab72 tab73 tab74 tab75 tab76 tab77 tab78 tab79 tab80 tab81 tab82 tab83 tab85 tab86 tab87 tab88 tab89 tab90 tab91 tab92 tab93 tab94 tab95 tab96 tab97 tab98 tab99 tab101 tab102 tab103 tab104 tab106 tab107 tab108 tab109 tab110 tab111 tab112 tab113 tab114 tab115 tab116 tab117 tab118 tab119 tab120 tab121 tab122 tab123 tab124 tab125 tab126 tab127 tab129 tab131 tab133 tab134 tab135 tab136 tab138 tab139 tab140 tab141 tab142 tab143 tab144 tab145 tab147 tab149 tab150 tab152 tab153 tab154 tab155 tab156 tab157 tab158 tab159 tab160 tab161 tab162 tab163 tab165 tab166 tab167 tab168 tab169 tab170 tab171 tab172 tab173 tab174 tab175 tab176 tab177 tab178 tab179 tab180 tab181 tab182 tab183 tab184 tab185 tab186 tab188 tab190 tab191 tab192 tab193 tab194 tab195 tab197 tab198 tab199 tab200 tab201 tab202 tab203 tab204 tab205 tab206 tab207 tab208 tab209 tab210 tab211 tab212 tab213 tab214 tab215 tab216 tab217 tab218 tab219 tab220 tab221 tab222 tab223 tab224 tab225 tab226 tab227 tab228 tab229 tab230 tab231 tab232 tab233 tab234 tab235 tab236 tab237 tab238 tab239 tab240 tab241 tab243 tab244 tab245 tab246 tab248 tab249 tab250 tab251 tab252 tab253 tab254 tab255 tab257 tab258 tab259 tab260 tab261 tab262 tab263 tab264 tab265 tab266 tab267 tab268 tab269 tab270 tab271 tab272 tab274 tab275 tab276 tab277 tab278 tab279 tab280 tab281 tab282 tab283 tab284 tab285 tab286 tab288 tab289 tab290 tab291 tab292 tab293 tab294 tab295 tab296 tab297 tab298 tab299 tab300 tab301 tab302 tab303 tab304 tab305 tab306 tab307 tab308 tab309 tab310 tab311 tab312 tab313 tab314 tab315 tab316 tab317 tab318 tab319 tab320 tab321 tab322 tab323 tab324 tab325 tab326 tab327 tab328 tab329 tab330 tab331 tab332 tab333 tab334 tab335 tab336 tab337 tab338 tab340 tab341 tab342 tab343 tab344 tab345 tab346 tab347 tab348 tab349 tab350 tab351 tab352 tab353 tab354 tab355 tab356 tab357 tab358 tab359 tab360 tab361 tab362 tab363 tab364 tab365 tab366 tab367 tab368 tab369 tab370 tab371 tab372 tab373 tab374 tab375 tab376 tab377 tab379 tab380 tab381 tab382 tab383 tab384 tab385 tab386 tab387 tab388 tab390 tab391 tab392 tab393 tab397 tab398 tab399 tab400 tab401 tab402 tab403 tab404
end Go.Proofs.YtbpblnmhlhpebaaGreatDoor
end
