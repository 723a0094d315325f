/- Part 5 of the proof of roomAsks_card, set without needless blanks. No condition. -/
import Derived.Test.YtlbfnbldeefgmaaGreatDoorA03
import Derived.Test.YtlbfnbldeefgmaaGreatDoorProg
set_option linter.all false
section
namespace Go.Dm
open Go
def zpv:Value→Option PV
 | .bool x=>some (.b x)
 | .int k n=>some (.i k n)
 | .string s=>some (.s s.1.toList)
 | .float .f64 x=>some (.f x)
 | .slice none 0 0=>some .nil
 | .pointer none=>some (.o (.pointer none))
 | .map none=>some (.o (.map none))
 | .nilFunc=>some (.o .nilFunc)
 | .nilIface=>some (.o .nilIface)
 | _=>none
def zMF:List Value→Option (List PV)
 | []=>some []
 | v::l=>match zpv v,zMF l with
  | some p,some ps=>some (p::ps)
  | _,_=>none
theorem zH5 {v:Value} {p:PV} (h:zpv v=some p):gM p=some v∧v.oneCell'=true:=by
 unfold zpv at h;split at h <;> first|cases h;exact ⟨rfl,rfl⟩|cases h
theorem PF:∀ {l:List Value} {ps:List PV},zMF l=some ps→ps.map gM=l.map some∧ps.length=l.length∧∀ v∈l,v.oneCell'=true
 | [],ps,h=>by cases h;exact ⟨rfl,rfl,fun _ h=>by cases h⟩
 | v::l,ps,h=>by
  rw [zMF] at h;split at h
  case h_1 p qs h1 h2 =>
   cases h;have a:=zH5 h1;have b:=PF h2;exact ⟨by simp [a.1,b.1],by simp [b.2.1],fun x hx=>by rcases List.mem_cons.1 hx with rfl|hx;exact a.2;exact b.2.2 x hx⟩
  case h_2=>cases h
def kOf:Option TypeDesc→TK
 | some .bool=>.bool
 | some (.int k)=>.int k
 | some (.float .f64)=>.float
 | some .string=>.str
 | some (.pointer e)=>.ptr e
 | some (.slice e)=>.slice e
 | some (.array n e)=>.array n e
 | some (.map k e)=>.map k e
 | some (.struct fs)=>.struct (fs.toList.map fun f=>(f.type,f.offset))
 | some (.func _ _ _)=>.func
 | some (.interface _)=>.iface
 | _=>.no
theorem zLy {d:Option TypeDesc} (h:kOf d≠.no):gT d (kOf d):=by
 unfold kOf at h ⊢;split <;> simp_all [gT]
def mJ:TI:=⟨.no,0,0,[]⟩
def noB:TK→Bool
 | .no=>true
 | _=>false
def zNC:Value→Bool
 | .agg _=>true
 | _=>false
noncomputable def zNp (P:Program) (t:Nat):TI :=
 match P.info? t with
 | none=>mJ
 | some i=>match i.zero with
  | none=>mJ
  | some z=>match zMF z.cells.toList with
   | none=>mJ
   | some ps =>
    if noB (kOf (P.underlying t))=false∧i.size=ps.length∧i.size≠0∧zNC z=(kOf (P.underlying t)).agg∧(zNC z=false→i.size=1∧z.oneCell'=true) then ⟨kOf (P.underlying t),i.size,i.bytes,ps⟩ else mJ
theorem tS {P:Program} {t:Nat}:zKO P t mJ:=rfl
theorem zKu {P:Program} {t:Nat}:zKO P t (zNp P t):=by
 unfold zNp;split
 ·exact tS
 ·rename_i i hi;split
  ·exact tS
  ·rename_i z hz;split
   ·exact tS
   ·rename_i ps hp;split
    ·rename_i h;obtain ⟨h1,h2,h3,h4,h5⟩:=h;have hf:=PF hp;have hk:kOf (P.underlying t)≠.no:=fun h=>by rw [h] at h1;cases h1
     have hd:=zLy hk;have hag:((kOf (P.underlying t)).agg=true→∃ cs,z=.agg cs)∧((kOf (P.underlying t)).agg=false→i.size=1∧z.oneCell'=true):=by
      rw [← h4];refine ⟨fun h=>?_,h5⟩;cases z <;> first|exact ⟨_,rfl⟩|cases h
     unfold zKO;simp only;generalize kOf (P.underlying t)=k at *;cases k
     case no=>exact absurd rfl hk
     all_goals exact ⟨hd,i,z,hi,rfl,rfl,hz,hf.1,h2,hag.1,hag.2⟩
    ·exact tS
end Go.Dm
namespace Go.Proofs.YtlbfnbldeefgmaaGreatDoor
open Go Go.Dm
set_option maxRecDepth 100000
def y0:TI:=⟨.func,1,8,[.o .nilFunc]⟩
def y1:TI:=⟨.struct [(9,0),(3,1)],2,24,[.s [],.i .i64 0]⟩
def y2:TI:=⟨.int .i64,1,8,[.i .i64 0]⟩
def y3:TI:=⟨.int .u64,1,8,[.i .u64 0]⟩
def y4:TI:=⟨.int .u8,1,1,[.i .u8 0]⟩
def y5:TI:=⟨.int .i32,1,4,[.i .i32 0]⟩
def y6:TI:=⟨.str,1,16,[.s []]⟩
def zNI:List TI:=[
 mJ,y0,y2,y2,⟨.bool,1,1,[.b false]⟩,y4,y4,⟨.struct [(2,0),(3,1),(4,2),(6,3)],4,24,[.i .i64 0,.i .i64 0,.b false,.i .u8 0]⟩,⟨.struct [(2,0),(3,1),(4,2),(6,3)],4,24,[.i .i64 0,.i .i64 0,.b false,.i .u8 0]⟩,
 y6,y6,y6,y3,⟨.struct [(9,0),(12,1)],2,24,[.s [],.i .u64 0]⟩,⟨.struct [(9,0),(12,1)],2,24,[.s [],.i .u64 0]⟩,⟨.ptr 400,1,8,[.o (.pointer none)]⟩,
 ⟨.ptr 403,1,8,[.o (.pointer none)]⟩,⟨.ptr 411,1,8,[.o (.pointer none)]⟩,⟨.struct [(17,0)],1,8,[.o (.pointer none)]⟩,⟨.struct [(17,0)],1,8,[.o (.pointer none)]⟩,
 ⟨.iface,1,16,[.o .nilIface]⟩,y5,⟨.slice 39,1,24,[.nil]⟩,⟨.ptr 105,1,8,[.o (.pointer none)]⟩,y0,y0,y2,⟨.float,1,8,[.f 0]⟩,⟨.slice 5,1,24,[.nil]⟩,
 ⟨.struct [(3,0),(3,1),(27,2),(28,3)],4,48,[.i .i64 0,.i .i64 0,.f 0,.nil]⟩,⟨.struct [(3,0),(3,1),(27,2),(28,3)],4,48,[.i .i64 0,.i .i64 0,.f 0,.nil]⟩,
 ⟨.slice 9,1,24,[.nil]⟩,⟨.struct [(26,0),(30,1),(28,5),(31,6)],7,104,[.i .i64 0,.i .i64 0,.i .i64 0,.f 0,.nil,.nil,.nil]⟩,⟨.struct [(26,0),(30,1),(28,5),(31,6)],7,104,[.i .i64 0,.i .i64 0,.i .i64 0,.f 0,.nil,.nil,.nil]⟩,
 y0,⟨.struct [(3,0),(9,1),(9,2),(3,3),(27,4),(3,5),(3,6),(28,7)],8,96,[.i .i64 0,.s [],.s [],.i .i64 0,.f 0,.i .i64 0,.i .i64 0,.nil]⟩,
 ⟨.struct [(3,0),(9,1),(9,2),(3,3),(27,4),(3,5),(3,6),(28,7)],8,96,[.i .i64 0,.s [],.s [],.i .i64 0,.f 0,.i .i64 0,.i .i64 0,.nil]⟩,
 y0,⟨.struct [(3,0),(3,1),(3,2),(3,3),(3,4),(3,5),(3,6),(3,7),(27,8),(28,9),(9,10)],11,112,[.i .i64 0,.i .i64 0,.i .i64 0,.i .i64 0,.i .i64 0,.i .i64 0,.i .i64 0,.i .i64 0,.f 0,.nil,.s []]⟩,
 ⟨.struct [(3,0),(3,1),(3,2),(3,3),(3,4),(3,5),(3,6),(3,7),(27,8),(28,9),(9,10)],11,112,[.i .i64 0,.i .i64 0,.i .i64 0,.i .i64 0,.i .i64 0,.i .i64 0,.i .i64 0,.i .i64 0,.f 0,.nil,.s []]⟩,
 ⟨.slice 130,1,24,[.nil]⟩,mJ,y0,y0,y0,y0,y0,⟨.slice 63,1,24,[.nil]⟩,⟨.slice 133,1,24,[.nil]⟩,⟨.slice 73,1,24,[.nil]⟩,⟨.struct [(48,0),(49,1),(3,2)],3,56,[.nil,.nil,.i .i64 0]⟩,
 ⟨.struct [(48,0),(49,1),(3,2)],3,56,[.nil,.nil,.i .i64 0]⟩,y0,⟨.slice 159,1,24,[.nil]⟩,⟨.slice 258,1,24,[.nil]⟩,⟨.struct [(26,0),(33,1),(53,8),(54,9)],10,160,[.i .i64 0,.i .i64 0,.i .i64 0,.i .i64 0,.f 0,.nil,.nil,.nil,.nil,.nil]⟩,
 ⟨.struct [(26,0),(33,1),(53,8),(54,9)],10,160,[.i .i64 0,.i .i64 0,.i .i64 0,.i .i64 0,.f 0,.nil,.nil,.nil,.nil,.nil]⟩,mJ,y0,⟨.struct [(3,0),(9,1),(9,2),(9,3),(36,4),(3,12),(28,13)],14,184,[.i .i64 0,.s [],.s [],.s [],.i .i64 0,.s [],.s [],.i .i64 0,.f 0,.i .i64 0,.i .i64 0,.nil,.i .i64 0,.nil]⟩,
 ⟨.struct [(3,0),(9,1),(9,2),(9,3),(36,4),(3,12),(28,13)],14,184,[.i .i64 0,.s [],.s [],.s [],.i .i64 0,.s [],.s [],.i .i64 0,.f 0,.i .i64 0,.i .i64 0,.nil,.i .i64 0,.nil]⟩,
 y0,⟨.struct [(3,0),(3,1),(3,2),(3,3),(3,4),(39,5),(28,16)],17,176,[.i .i64 0,.i .i64 0,.i .i64 0,.i .i64 0,.i .i64 0,.i .i64 0,.i .i64 0,.i .i64 0,.i .i64 0,.i .i64 0,.i .i64 0,.i .i64 0,.i .i64 0,.f 0,.nil,.s [],.nil]⟩,
 ⟨.struct [(3,0),(3,1),(3,2),(3,3),(3,4),(39,5),(28,16)],17,176,[.i .i64 0,.i .i64 0,.i .i64 0,.i .i64 0,.i .i64 0,.i .i64 0,.i .i64 0,.i .i64 0,.i .i64 0,.i .i64 0,.i .i64 0,.i .i64 0,.i .i64 0,.f 0,.nil,.s [],.nil]⟩,
 ⟨.slice 70,1,24,[.nil]⟩,y0,⟨.slice 67,1,24,[.nil]⟩,⟨.slice 75,1,24,[.nil]⟩,y0,⟨.struct [(3,0),(3,1),(3,2),(4,3)],4,32,[.i .i64 0,.i .i64 0,.i .i64 0,.b false]⟩,
 ⟨.struct [(3,0),(3,1),(3,2),(4,3)],4,32,[.i .i64 0,.i .i64 0,.i .i64 0,.b false]⟩,y0,y1,y1,⟨.struct [(9,0),(3,1),(4,2),(30,3)],7,80,[.s [],.i .i64 0,.b false,.i .i64 0,.i .i64 0,.f 0,.nil]⟩,
 ⟨.struct [(9,0),(3,1),(4,2),(30,3)],7,80,[.s [],.i .i64 0,.b false,.i .i64 0,.i .i64 0,.f 0,.nil]⟩,mJ,y0,y0,y0,y0,⟨.slice 3,1,24,[.nil]⟩,
 y0,y0,mJ,y0,y0,⟨.slice 161,1,24,[.nil]⟩,y0,y0,y0,y0,y0,y0,y0,⟨.slice 40,1,24,[.nil]⟩,y0,y0,y0,y0,mJ,y0,y0,⟨.map 3 67,1,8,[.o (.map none)]⟩,
 ⟨.struct [(49,0),(64,1),(103,2),(3,3)],4,64,[.nil,.nil,.o (.map none),.i .i64 0]⟩,⟨.struct [(49,0),(64,1),(103,2),(3,3)],4,64,[.nil,.nil,.o (.map none),.i .i64 0]⟩,
 y0,mJ,y0,y0,mJ,y0,y0,⟨.array 24 3,24,192,[.i .i64 0,.i .i64 0,.i .i64 0,.i .i64 0,.i .i64 0,.i .i64 0,.i .i64 0,.i .i64 0,.i .i64 0,.i .i64 0,.i .i64 0,.i .i64 0,.i .i64 0,.i .i64 0,.i .i64 0,.i .i64 0,.i .i64 0,.i .i64 0,.i .i64 0,.i .i64 0,.i .i64 0,.i .i64 0,.i .i64 0,.i .i64 0]⟩,
 y0,y0,y0,y0,⟨.struct [(3,0),(3,1),(3,2),(27,3),(28,4)],5,56,[.i .i64 0,.i .i64 0,.i .i64 0,.f 0,.nil]⟩,⟨.struct [(3,0),(3,1),(3,2),(27,3),(28,4)],5,56,[.i .i64 0,.i .i64 0,.i .i64 0,.f 0,.nil]⟩,
 y0,y0,y0,y0,y0,y0,y0,y0,y0,⟨.struct [(9,0),(30,1)],5,64,[.s [],.i .i64 0,.i .i64 0,.f 0,.nil]⟩,⟨.struct [(9,0),(30,1)],5,64,[.s [],.i .i64 0,.i .i64 0,.f 0,.nil]⟩,
 y0,⟨.struct [(70,0),(40,4)],5,56,[.i .i64 0,.i .i64 0,.i .i64 0,.b false,.nil]⟩,⟨.struct [(70,0),(40,4)],5,56,[.i .i64 0,.i .i64 0,.i .i64 0,.b false,.nil]⟩,
 mJ,y0,mJ,y0,mJ,y0,y0,mJ,y0,y0,y0,y0,y0,y0,y0,y0,y0,y0,y0,y0,y0,mJ,y0,y0,⟨.struct [(9,0),(3,1),(30,2),(30,6)],10,120,[.s [],.i .i64 0,.i .i64 0,.i .i64 0,.f 0,.nil,.i .i64 0,.i .i64 0,.f 0,.nil]⟩,
 ⟨.struct [(9,0),(3,1),(30,2),(30,6)],10,120,[.s [],.i .i64 0,.i .i64 0,.i .i64 0,.f 0,.nil,.i .i64 0,.i .i64 0,.f 0,.nil]⟩,⟨.struct [(3,0),(119,1)],6,64,[.i .i64 0,.i .i64 0,.i .i64 0,.i .i64 0,.f 0,.nil]⟩,
 ⟨.struct [(3,0),(119,1)],6,64,[.i .i64 0,.i .i64 0,.i .i64 0,.i .i64 0,.f 0,.nil]⟩,y0,y0,mJ,y0,y0,mJ,y0,y0,y0,y0,mJ,y0,⟨.struct [(40,0),(9,1),(4,2),(30,3)],7,96,[.nil,.s [],.b false,.i .i64 0,.i .i64 0,.f 0,.nil]⟩,
 ⟨.struct [(40,0),(9,1),(4,2),(30,3)],7,96,[.nil,.s [],.b false,.i .i64 0,.i .i64 0,.f 0,.nil]⟩,y0,y0,y0,y0,y0,y0,y0,y0,y0,y3,
 ⟨.array 12 27,12,96,[.f 0,.f 0,.f 0,.f 0,.f 0,.f 0,.f 0,.f 0,.f 0,.f 0,.f 0,.f 0]⟩,y0,y0,y0,y0,y0,y0,y0,y0,y0,y0,y0,mJ,y0,
 ⟨.array 7 9,7,112,[.s [],.s [],.s [],.s [],.s [],.s [],.s []]⟩,y0,y0,y0,y0,y0,y0,y0,⟨.array 2 3,2,16,[.i .i64 0,.i .i64 0]⟩,y0,y0,
 y0,y0,y0,⟨.map 9 4,1,8,[.o (.map none)]⟩,y0,y0,y0,y0,y0,y0,y0,mJ,y0,mJ,y0,y0,y0,⟨.slice 4,1,24,[.nil]⟩,mJ,y0,⟨.ptr 233,1,8,[.o (.pointer none)]⟩,
 ⟨.struct [(40,0),(9,1),(31,2),(3,3)],4,72,[.nil,.s [],.nil,.i .i64 0]⟩,⟨.struct [(40,0),(9,1),(31,2),(3,3)],4,72,[.nil,.s [],.nil,.i .i64 0]⟩,
 mJ,y0,y0,y0,y0,y0,y0,y0,y0,y0,⟨.struct [(40,0),(40,1)],2,48,[.nil,.nil]⟩,⟨.struct [(40,0),(40,1)],2,48,[.nil,.nil]⟩,y0,y0,
 ⟨.array 6 9,6,96,[.s [],.s [],.s [],.s [],.s [],.s []]⟩,y0,y0,y0,y0,y0,y0,mJ,y0,y1,y1,⟨.slice 264,1,24,[.nil]⟩,y0,mJ,y0,⟨.struct [(9,0),(9,1)],2,32,[.s [],.s []]⟩,
 ⟨.struct [(9,0),(9,1)],2,32,[.s [],.s []]⟩,y0,y0,⟨.map 3 4,1,8,[.o (.map none)]⟩,y0,y0,y0,y0,y0,y3,y0,y0,y0,y0,y0,y0,y0,y0,
 y0,y0,y0,y0,y0,y0,y0,y0,y0,y0,y0,y0,y2,mJ,y0,y0,y0,y0,y0,⟨.int .u32,1,4,[.i .u32 0]⟩,y0,⟨.ptr 305,1,8,[.o (.pointer none)]⟩,
 ⟨.struct [(28,0)],1,24,[.nil]⟩,⟨.struct [(28,0)],1,24,[.nil]⟩,y0,y0,y0,y0,y0,y0,y0,y0,y0,y0,y0,y0,⟨.slice 28,1,24,[.nil]⟩,y0,
 y0,mJ,y0,y0,y0,y0,y0,y0,y0,y0,y0,y0,y3,y0,y0,y0,⟨.ptr 3,1,8,[.o (.pointer none)]⟩,y0,y0,y0,y0,y0,y0,y0,y0,y0,y0,y0,y0,
 ⟨.slice 54,1,24,[.nil]⟩,y0,y0,y0,y0,y0,y0,⟨.slice 31,1,24,[.nil]⟩,y0,y0,y0,y0,y0,y0,y0,y0,y0,y0,⟨.ptr 332,1,8,[.o (.pointer none)]⟩,
 y0,y0,y0,y0,y0,y0,y0,y0,mJ,y0,y0,y0,y0,y0,y0,y0,y0,y0,y0,y0,y0,y0,y0,⟨.array 256 5,256,256,[.i .u8 0,.i .u8 0,.i .u8 0,.i .u8 0,.i .u8 0,.i .u8 0,.i .u8 0,.i .u8 0,.i .u8 0,.i .u8 0,.i .u8 0,.i .u8 0,.i .u8 0,.i .u8 0,.i .u8 0,.i .u8 0,.i .u8 0,.i .u8 0,.i .u8 0,.i .u8 0,.i .u8 0,.i .u8 0,.i .u8 0,.i .u8 0,.i .u8 0,.i .u8 0,.i .u8 0,.i .u8 0,.i .u8 0,.i .u8 0,.i .u8 0,.i .u8 0,.i .u8 0,.i .u8 0,.i .u8 0,.i .u8 0,.i .u8 0,.i .u8 0,.i .u8 0,.i .u8 0,.i .u8 0,.i .u8 0,.i .u8 0,.i .u8 0,.i .u8 0,.i .u8 0,.i .u8 0,.i .u8 0,.i .u8 0,.i .u8 0,.i .u8 0,.i .u8 0,.i .u8 0,.i .u8 0,.i .u8 0,.i .u8 0,.i .u8 0,.i .u8 0,.i .u8 0,.i .u8 0,.i .u8 0,.i .u8 0,.i .u8 0,.i .u8 0,.i .u8 0,.i .u8 0,.i .u8 0,.i .u8 0,.i .u8 0,.i .u8 0,.i .u8 0,.i .u8 0,.i .u8 0,.i .u8 0,.i .u8 0,.i .u8 0,.i .u8 0,.i .u8 0,.i .u8 0,.i .u8 0,.i .u8 0,.i .u8 0,.i .u8 0,.i .u8 0,.i .u8 0,.i .u8 0,.i .u8 0,.i .u8 0,.i .u8 0,.i .u8 0,.i .u8 0,.i .u8 0,.i .u8 0,.i .u8 0,.i .u8 0,.i .u8 0,.i .u8 0,.i .u8 0,.i .u8 0,.i .u8 0,.i .u8 0,.i .u8 0,.i .u8 0,.i .u8 0,.i .u8 0,.i .u8 0,.i .u8 0,.i .u8 0,.i .u8 0,.i .u8 0,.i .u8 0,.i .u8 0,.i .u8 0,.i .u8 0,.i .u8 0,.i .u8 0,.i .u8 0,.i .u8 0,.i .u8 0,.i .u8 0,.i .u8 0,.i .u8 0,.i .u8 0,.i .u8 0,.i .u8 0,.i .u8 0,.i .u8 0,.i .u8 0,.i .u8 0,.i .u8 0,.i .u8 0,.i .u8 0,.i .u8 0,.i .u8 0,.i .u8 0,.i .u8 0,.i .u8 0,.i .u8 0,.i .u8 0,.i .u8 0,.i .u8 0,.i .u8 0,.i .u8 0,.i .u8 0,.i .u8 0,.i .u8 0,.i .u8 0,.i .u8 0,.i .u8 0,.i .u8 0,.i .u8 0,.i .u8 0,.i .u8 0,.i .u8 0,.i .u8 0,.i .u8 0,.i .u8 0,.i .u8 0,.i .u8 0,.i .u8 0,.i .u8 0,.i .u8 0,.i .u8 0,.i .u8 0,.i .u8 0,.i .u8 0,.i .u8 0,.i .u8 0,.i .u8 0,.i .u8 0,.i .u8 0,.i .u8 0,.i .u8 0,.i .u8 0,.i .u8 0,.i .u8 0,.i .u8 0,.i .u8 0,.i .u8 0,.i .u8 0,.i .u8 0,.i .u8 0,.i .u8 0,.i .u8 0,.i .u8 0,.i .u8 0,.i .u8 0,.i .u8 0,.i .u8 0,.i .u8 0,.i .u8 0,.i .u8 0,.i .u8 0,.i .u8 0,.i .u8 0,.i .u8 0,.i .u8 0,.i .u8 0,.i .u8 0,.i .u8 0,.i .u8 0,.i .u8 0,.i .u8 0,.i .u8 0,.i .u8 0,.i .u8 0,.i .u8 0,.i .u8 0,.i .u8 0,.i .u8 0,.i .u8 0,.i .u8 0,.i .u8 0,.i .u8 0,.i .u8 0,.i .u8 0,.i .u8 0,.i .u8 0,.i .u8 0,.i .u8 0,.i .u8 0,.i .u8 0,.i .u8 0,.i .u8 0,.i .u8 0,.i .u8 0,.i .u8 0,.i .u8 0,.i .u8 0,.i .u8 0,.i .u8 0,.i .u8 0,.i .u8 0,.i .u8 0,.i .u8 0,.i .u8 0,.i .u8 0,.i .u8 0,.i .u8 0,.i .u8 0,.i .u8 0,.i .u8 0,.i .u8 0,.i .u8 0,.i .u8 0,.i .u8 0,.i .u8 0,.i .u8 0,.i .u8 0,.i .u8 0,.i .u8 0,.i .u8 0,.i .u8 0,.i .u8 0,.i .u8 0,.i .u8 0]⟩,
 ⟨.struct [(5,0),(5,1)],2,2,[.i .u8 0,.i .u8 0]⟩,⟨.struct [(5,0),(5,1)],2,2,[.i .u8 0,.i .u8 0]⟩,⟨.array 16 393,32,32,[.i .u8 0,.i .u8 0,.i .u8 0,.i .u8 0,.i .u8 0,.i .u8 0,.i .u8 0,.i .u8 0,.i .u8 0,.i .u8 0,.i .u8 0,.i .u8 0,.i .u8 0,.i .u8 0,.i .u8 0,.i .u8 0,.i .u8 0,.i .u8 0,.i .u8 0,.i .u8 0,.i .u8 0,.i .u8 0,.i .u8 0,.i .u8 0,.i .u8 0,.i .u8 0,.i .u8 0,.i .u8 0,.i .u8 0,.i .u8 0,.i .u8 0,.i .u8 0]⟩,
 mJ,y0,y0,y0,⟨.struct [(17,0),(17,1),(17,2),(9,3)],4,40,[.o (.pointer none),.o (.pointer none),.o (.pointer none),.s []]⟩,⟨.struct [(17,0),(17,1),(17,2),(9,3)],4,40,[.o (.pointer none),.o (.pointer none),.o (.pointer none),.s []]⟩,
 mJ,mJ,mJ,y4,y4,y0,⟨.ptr 5,1,8,[.o (.pointer none)]⟩,y5,y5,⟨.struct [(12,0),(12,1),(301,2),(404,3),(5,4),(5,5),(405,6),(406,7),(407,8),(408,9),(409,10)],11,48,[.i .u64 0,.i .u64 0,.i .u32 0,.i .u8 0,.i .u8 0,.i .u8 0,.i .u8 0,.o .nilFunc,.o (.pointer none),.i .i32 0,.i .i32 0]⟩,
 ⟨.struct [(12,0),(12,1),(301,2),(404,3),(5,4),(5,5),(405,6),(406,7),(407,8),(408,9),(409,10)],11,48,[.i .u64 0,.i .u64 0,.i .u32 0,.i .u8 0,.i .u8 0,.i .u8 0,.i .u8 0,.o .nilFunc,.o (.pointer none),.i .i32 0,.i .i32 0]⟩,
 mJ]
def tab:Tab:=fun t=>zNI.getD t mJ
noncomputable def zNJ (t:Nat):TI:=if [0,41,57,76,84,100,107,110,134,136,138,141,155,164,167,172,198,222,224,229,234,255,261,295,321,376,395,401,402,403,412].contains t then mJ else zNp Tryz.prog t
theorem tabE:zNI=(List.range 413).map zNJ:=by kernel_rfl
theorem aB:bD Tryz.prog tab:=fun t=>by
 unfold tab;rw [tabE,List.getD_eq_getElem?_getD,List.getElem?_map];cases h:(List.range 413)[t]? with
 | none=>exact tS
 | some x =>
  obtain ⟨h1,h2⟩:=List.getElem?_eq_some_iff.1 h;rw [List.getElem_range] at h2;subst h2;simp only [Option.map_some,Option.getD_some,zNJ];split
  ·exact tS
  ·exact zKu
theorem tab1:tab 1=⟨.func,1,8,[.o .nilFunc]⟩:=rfl
theorem tab2:tab 2=⟨.int .i64,1,8,[.i .i64 0]⟩:=rfl
theorem tab3:tab 3=⟨.int .i64,1,8,[.i .i64 0]⟩:=rfl
theorem tab4:tab 4=⟨.bool,1,1,[.b false]⟩:=rfl
theorem tab5:tab 5=⟨.int .u8,1,1,[.i .u8 0]⟩:=rfl
theorem tab6:tab 6=⟨.int .u8,1,1,[.i .u8 0]⟩:=rfl
theorem tab7:tab 7=⟨.struct [(2,0),(3,1),(4,2),(6,3)],4,24,[.i .i64 0,.i .i64 0,.b false,.i .u8 0]⟩:=rfl
theorem tab8:tab 8=⟨.struct [(2,0),(3,1),(4,2),(6,3)],4,24,[.i .i64 0,.i .i64 0,.b false,.i .u8 0]⟩:=rfl
theorem tab9:tab 9=⟨.str,1,16,[.s []]⟩:=rfl
theorem tab10:tab 10=⟨.str,1,16,[.s []]⟩:=rfl
theorem tab11:tab 11=⟨.str,1,16,[.s []]⟩:=rfl
theorem tab12:tab 12=⟨.int .u64,1,8,[.i .u64 0]⟩:=rfl
theorem tab13:tab 13=⟨.struct [(9,0),(12,1)],2,24,[.s [],.i .u64 0]⟩:=rfl
theorem tab14:tab 14=⟨.struct [(9,0),(12,1)],2,24,[.s [],.i .u64 0]⟩:=rfl
theorem tab15:tab 15=⟨.ptr 400,1,8,[.o (.pointer none)]⟩:=rfl
theorem tab16:tab 16=⟨.ptr 403,1,8,[.o (.pointer none)]⟩:=rfl
theorem tab17:tab 17=⟨.ptr 411,1,8,[.o (.pointer none)]⟩:=rfl
theorem tab18:tab 18=⟨.struct [(17,0)],1,8,[.o (.pointer none)]⟩:=rfl
theorem tab19:tab 19=⟨.struct [(17,0)],1,8,[.o (.pointer none)]⟩:=rfl
theorem tab20:tab 20=⟨.iface,1,16,[.o .nilIface]⟩:=rfl
theorem tab21:tab 21=⟨.int .i32,1,4,[.i .i32 0]⟩:=rfl
theorem tab22:tab 22=⟨.slice 39,1,24,[.nil]⟩:=rfl
theorem tab23:tab 23=⟨.ptr 105,1,8,[.o (.pointer none)]⟩:=rfl
theorem tab24:tab 24=⟨.func,1,8,[.o .nilFunc]⟩:=rfl
theorem tab25:tab 25=⟨.func,1,8,[.o .nilFunc]⟩:=rfl
theorem tab26:tab 26=⟨.int .i64,1,8,[.i .i64 0]⟩:=rfl
theorem tab27:tab 27=⟨.float,1,8,[.f 0]⟩:=rfl
theorem tab28:tab 28=⟨.slice 5,1,24,[.nil]⟩:=rfl
theorem tab29:tab 29=⟨.struct [(3,0),(3,1),(27,2),(28,3)],4,48,[.i .i64 0,.i .i64 0,.f 0,.nil]⟩:=rfl
theorem tab30:tab 30=⟨.struct [(3,0),(3,1),(27,2),(28,3)],4,48,[.i .i64 0,.i .i64 0,.f 0,.nil]⟩:=rfl
theorem tab31:tab 31=⟨.slice 9,1,24,[.nil]⟩:=rfl
theorem tab32:tab 32=⟨.struct [(26,0),(30,1),(28,5),(31,6)],7,104,[.i .i64 0,.i .i64 0,.i .i64 0,.f 0,.nil,.nil,.nil]⟩:=rfl
theorem tab33:tab 33=⟨.struct [(26,0),(30,1),(28,5),(31,6)],7,104,[.i .i64 0,.i .i64 0,.i .i64 0,.f 0,.nil,.nil,.nil]⟩:=rfl
theorem tab34:tab 34=⟨.func,1,8,[.o .nilFunc]⟩:=rfl
theorem tab35:tab 35=⟨.struct [(3,0),(9,1),(9,2),(3,3),(27,4),(3,5),(3,6),(28,7)],8,96,[.i .i64 0,.s [],.s [],.i .i64 0,.f 0,.i .i64 0,.i .i64 0,.nil]⟩:=rfl
theorem tab36:tab 36=⟨.struct [(3,0),(9,1),(9,2),(3,3),(27,4),(3,5),(3,6),(28,7)],8,96,[.i .i64 0,.s [],.s [],.i .i64 0,.f 0,.i .i64 0,.i .i64 0,.nil]⟩:=rfl
theorem tab37:tab 37=⟨.func,1,8,[.o .nilFunc]⟩:=rfl
theorem tab38:tab 38=⟨.struct [(3,0),(3,1),(3,2),(3,3),(3,4),(3,5),(3,6),(3,7),(27,8),(28,9),(9,10)],11,112,[.i .i64 0,.i .i64 0,.i .i64 0,.i .i64 0,.i .i64 0,.i .i64 0,.i .i64 0,.i .i64 0,.f 0,.nil,.s []]⟩:=rfl
theorem tab39:tab 39=⟨.struct [(3,0),(3,1),(3,2),(3,3),(3,4),(3,5),(3,6),(3,7),(27,8),(28,9),(9,10)],11,112,[.i .i64 0,.i .i64 0,.i .i64 0,.i .i64 0,.i .i64 0,.i .i64 0,.i .i64 0,.i .i64 0,.f 0,.nil,.s []]⟩:=rfl
theorem tab40:tab 40=⟨.slice 130,1,24,[.nil]⟩:=rfl
theorem tab42:tab 42=⟨.func,1,8,[.o .nilFunc]⟩:=rfl
theorem tab43:tab 43=⟨.func,1,8,[.o .nilFunc]⟩:=rfl
theorem tab44:tab 44=⟨.func,1,8,[.o .nilFunc]⟩:=rfl
theorem tab45:tab 45=⟨.func,1,8,[.o .nilFunc]⟩:=rfl
theorem tab46:tab 46=⟨.func,1,8,[.o .nilFunc]⟩:=rfl
theorem tab47:tab 47=⟨.slice 63,1,24,[.nil]⟩:=rfl
theorem tab48:tab 48=⟨.slice 133,1,24,[.nil]⟩:=rfl
theorem tab49:tab 49=⟨.slice 73,1,24,[.nil]⟩:=rfl
theorem tab50:tab 50=⟨.struct [(48,0),(49,1),(3,2)],3,56,[.nil,.nil,.i .i64 0]⟩:=rfl
theorem tab51:tab 51=⟨.struct [(48,0),(49,1),(3,2)],3,56,[.nil,.nil,.i .i64 0]⟩:=rfl
theorem tab52:tab 52=⟨.func,1,8,[.o .nilFunc]⟩:=rfl
theorem tab53:tab 53=⟨.slice 159,1,24,[.nil]⟩:=rfl
theorem tab54:tab 54=⟨.slice 258,1,24,[.nil]⟩:=rfl
theorem tab55:tab 55=⟨.struct [(26,0),(33,1),(53,8),(54,9)],10,160,[.i .i64 0,.i .i64 0,.i .i64 0,.i .i64 0,.f 0,.nil,.nil,.nil,.nil,.nil]⟩:=rfl
theorem tab56:tab 56=⟨.struct [(26,0),(33,1),(53,8),(54,9)],10,160,[.i .i64 0,.i .i64 0,.i .i64 0,.i .i64 0,.f 0,.nil,.nil,.nil,.nil,.nil]⟩:=rfl
theorem tab58:tab 58=⟨.func,1,8,[.o .nilFunc]⟩:=rfl
theorem tab59:tab 59=⟨.struct [(3,0),(9,1),(9,2),(9,3),(36,4),(3,12),(28,13)],14,184,[.i .i64 0,.s [],.s [],.s [],.i .i64 0,.s [],.s [],.i .i64 0,.f 0,.i .i64 0,.i .i64 0,.nil,.i .i64 0,.nil]⟩:=rfl
theorem tab60:tab 60=⟨.struct [(3,0),(9,1),(9,2),(9,3),(36,4),(3,12),(28,13)],14,184,[.i .i64 0,.s [],.s [],.s [],.i .i64 0,.s [],.s [],.i .i64 0,.f 0,.i .i64 0,.i .i64 0,.nil,.i .i64 0,.nil]⟩:=rfl
theorem tab61:tab 61=⟨.func,1,8,[.o .nilFunc]⟩:=rfl
theorem tab62:tab 62=⟨.struct [(3,0),(3,1),(3,2),(3,3),(3,4),(39,5),(28,16)],17,176,[.i .i64 0,.i .i64 0,.i .i64 0,.i .i64 0,.i .i64 0,.i .i64 0,.i .i64 0,.i .i64 0,.i .i64 0,.i .i64 0,.i .i64 0,.i .i64 0,.i .i64 0,.f 0,.nil,.s [],.nil]⟩:=rfl
theorem tab63:tab 63=⟨.struct [(3,0),(3,1),(3,2),(3,3),(3,4),(39,5),(28,16)],17,176,[.i .i64 0,.i .i64 0,.i .i64 0,.i .i64 0,.i .i64 0,.i .i64 0,.i .i64 0,.i .i64 0,.i .i64 0,.i .i64 0,.i .i64 0,.i .i64 0,.i .i64 0,.f 0,.nil,.s [],.nil]⟩:=rfl
theorem tab64:tab 64=⟨.slice 70,1,24,[.nil]⟩:=rfl
theorem tab65:tab 65=⟨.func,1,8,[.o .nilFunc]⟩:=rfl
theorem tab66:tab 66=⟨.slice 67,1,24,[.nil]⟩:=rfl
theorem tab67:tab 67=⟨.slice 75,1,24,[.nil]⟩:=rfl
theorem tab68:tab 68=⟨.func,1,8,[.o .nilFunc]⟩:=rfl
theorem tab69:tab 69=⟨.struct [(3,0),(3,1),(3,2),(4,3)],4,32,[.i .i64 0,.i .i64 0,.i .i64 0,.b false]⟩:=rfl
theorem tab70:tab 70=⟨.struct [(3,0),(3,1),(3,2),(4,3)],4,32,[.i .i64 0,.i .i64 0,.i .i64 0,.b false]⟩:=rfl
theorem tab71:tab 71=⟨.func,1,8,[.o .nilFunc]⟩:=rfl
theorem tab72:tab 72=⟨.struct [(9,0),(3,1)],2,24,[.s [],.i .i64 0]⟩:=rfl
theorem tab73:tab 73=⟨.struct [(9,0),(3,1)],2,24,[.s [],.i .i64 0]⟩:=rfl
theorem tab74:tab 74=⟨.struct [(9,0),(3,1),(4,2),(30,3)],7,80,[.s [],.i .i64 0,.b false,.i .i64 0,.i .i64 0,.f 0,.nil]⟩:=rfl
theorem tab75:tab 75=⟨.struct [(9,0),(3,1),(4,2),(30,3)],7,80,[.s [],.i .i64 0,.b false,.i .i64 0,.i .i64 0,.f 0,.nil]⟩:=rfl
theorem tab77:tab 77=⟨.func,1,8,[.o .nilFunc]⟩:=rfl
theorem tab78:tab 78=⟨.func,1,8,[.o .nilFunc]⟩:=rfl
theorem tab79:tab 79=⟨.func,1,8,[.o .nilFunc]⟩:=rfl
theorem tab80:tab 80=⟨.func,1,8,[.o .nilFunc]⟩:=rfl
theorem tab81:tab 81=⟨.slice 3,1,24,[.nil]⟩:=rfl
theorem tab82:tab 82=⟨.func,1,8,[.o .nilFunc]⟩:=rfl
theorem tab83:tab 83=⟨.func,1,8,[.o .nilFunc]⟩:=rfl
theorem tab85:tab 85=⟨.func,1,8,[.o .nilFunc]⟩:=rfl
theorem tab86:tab 86=⟨.func,1,8,[.o .nilFunc]⟩:=rfl
theorem tab87:tab 87=⟨.slice 161,1,24,[.nil]⟩:=rfl
theorem tab88:tab 88=⟨.func,1,8,[.o .nilFunc]⟩:=rfl
theorem tab89:tab 89=⟨.func,1,8,[.o .nilFunc]⟩:=rfl
theorem tab90:tab 90=⟨.func,1,8,[.o .nilFunc]⟩:=rfl
theorem tab91:tab 91=⟨.func,1,8,[.o .nilFunc]⟩:=rfl
theorem tab92:tab 92=⟨.func,1,8,[.o .nilFunc]⟩:=rfl
theorem tab93:tab 93=⟨.func,1,8,[.o .nilFunc]⟩:=rfl
theorem tab94:tab 94=⟨.func,1,8,[.o .nilFunc]⟩:=rfl
theorem tab95:tab 95=⟨.slice 40,1,24,[.nil]⟩:=rfl
theorem tab96:tab 96=⟨.func,1,8,[.o .nilFunc]⟩:=rfl
theorem tab97:tab 97=⟨.func,1,8,[.o .nilFunc]⟩:=rfl
theorem tab98:tab 98=⟨.func,1,8,[.o .nilFunc]⟩:=rfl
theorem tab99:tab 99=⟨.func,1,8,[.o .nilFunc]⟩:=rfl
theorem tab101:tab 101=⟨.func,1,8,[.o .nilFunc]⟩:=rfl
theorem tab102:tab 102=⟨.func,1,8,[.o .nilFunc]⟩:=rfl
theorem tab103:tab 103=⟨.map 3 67,1,8,[.o (.map none)]⟩:=rfl
theorem tab104:tab 104=⟨.struct [(49,0),(64,1),(103,2),(3,3)],4,64,[.nil,.nil,.o (.map none),.i .i64 0]⟩:=rfl
theorem tab105:tab 105=⟨.struct [(49,0),(64,1),(103,2),(3,3)],4,64,[.nil,.nil,.o (.map none),.i .i64 0]⟩:=rfl
theorem tab106:tab 106=⟨.func,1,8,[.o .nilFunc]⟩:=rfl
theorem tab108:tab 108=⟨.func,1,8,[.o .nilFunc]⟩:=rfl
theorem tab109:tab 109=⟨.func,1,8,[.o .nilFunc]⟩:=rfl
theorem tab111:tab 111=⟨.func,1,8,[.o .nilFunc]⟩:=rfl
theorem tab112:tab 112=⟨.func,1,8,[.o .nilFunc]⟩:=rfl
theorem tab113:tab 113=⟨.array 24 3,24,192,[.i .i64 0,.i .i64 0,.i .i64 0,.i .i64 0,.i .i64 0,.i .i64 0,.i .i64 0,.i .i64 0,.i .i64 0,.i .i64 0,.i .i64 0,.i .i64 0,.i .i64 0,.i .i64 0,.i .i64 0,.i .i64 0,.i .i64 0,.i .i64 0,.i .i64 0,.i .i64 0,.i .i64 0,.i .i64 0,.i .i64 0,.i .i64 0]⟩:=rfl
theorem tab114:tab 114=⟨.func,1,8,[.o .nilFunc]⟩:=rfl
theorem tab115:tab 115=⟨.func,1,8,[.o .nilFunc]⟩:=rfl
theorem tab116:tab 116=⟨.func,1,8,[.o .nilFunc]⟩:=rfl
theorem tab117:tab 117=⟨.func,1,8,[.o .nilFunc]⟩:=rfl
theorem tab118:tab 118=⟨.struct [(3,0),(3,1),(3,2),(27,3),(28,4)],5,56,[.i .i64 0,.i .i64 0,.i .i64 0,.f 0,.nil]⟩:=rfl
theorem tab119:tab 119=⟨.struct [(3,0),(3,1),(3,2),(27,3),(28,4)],5,56,[.i .i64 0,.i .i64 0,.i .i64 0,.f 0,.nil]⟩:=rfl
theorem tab120:tab 120=⟨.func,1,8,[.o .nilFunc]⟩:=rfl
theorem tab121:tab 121=⟨.func,1,8,[.o .nilFunc]⟩:=rfl
theorem tab122:tab 122=⟨.func,1,8,[.o .nilFunc]⟩:=rfl
theorem tab123:tab 123=⟨.func,1,8,[.o .nilFunc]⟩:=rfl
theorem tab124:tab 124=⟨.func,1,8,[.o .nilFunc]⟩:=rfl
theorem tab125:tab 125=⟨.func,1,8,[.o .nilFunc]⟩:=rfl
theorem tab126:tab 126=⟨.func,1,8,[.o .nilFunc]⟩:=rfl
theorem tab127:tab 127=⟨.func,1,8,[.o .nilFunc]⟩:=rfl
theorem tab128:tab 128=⟨.func,1,8,[.o .nilFunc]⟩:=rfl
theorem tab129:tab 129=⟨.struct [(9,0),(30,1)],5,64,[.s [],.i .i64 0,.i .i64 0,.f 0,.nil]⟩:=rfl
theorem tab130:tab 130=⟨.struct [(9,0),(30,1)],5,64,[.s [],.i .i64 0,.i .i64 0,.f 0,.nil]⟩:=rfl
theorem tab131:tab 131=⟨.func,1,8,[.o .nilFunc]⟩:=rfl
theorem tab132:tab 132=⟨.struct [(70,0),(40,4)],5,56,[.i .i64 0,.i .i64 0,.i .i64 0,.b false,.nil]⟩:=rfl
theorem tab133:tab 133=⟨.struct [(70,0),(40,4)],5,56,[.i .i64 0,.i .i64 0,.i .i64 0,.b false,.nil]⟩:=rfl
theorem tab135:tab 135=⟨.func,1,8,[.o .nilFunc]⟩:=rfl
theorem tab137:tab 137=⟨.func,1,8,[.o .nilFunc]⟩:=rfl
theorem tab139:tab 139=⟨.func,1,8,[.o .nilFunc]⟩:=rfl
theorem tab140:tab 140=⟨.func,1,8,[.o .nilFunc]⟩:=rfl
theorem tab142:tab 142=⟨.func,1,8,[.o .nilFunc]⟩:=rfl
theorem tab143:tab 143=⟨.func,1,8,[.o .nilFunc]⟩:=rfl
theorem tab144:tab 144=⟨.func,1,8,[.o .nilFunc]⟩:=rfl
theorem tab145:tab 145=⟨.func,1,8,[.o .nilFunc]⟩:=rfl
theorem tab146:tab 146=⟨.func,1,8,[.o .nilFunc]⟩:=rfl
theorem tab147:tab 147=⟨.func,1,8,[.o .nilFunc]⟩:=rfl
theorem tab148:tab 148=⟨.func,1,8,[.o .nilFunc]⟩:=rfl
theorem tab149:tab 149=⟨.func,1,8,[.o .nilFunc]⟩:=rfl
theorem tab150:tab 150=⟨.func,1,8,[.o .nilFunc]⟩:=rfl
theorem tab151:tab 151=⟨.func,1,8,[.o .nilFunc]⟩:=rfl
theorem tab152:tab 152=⟨.func,1,8,[.o .nilFunc]⟩:=rfl
theorem tab153:tab 153=⟨.func,1,8,[.o .nilFunc]⟩:=rfl
theorem tab154:tab 154=⟨.func,1,8,[.o .nilFunc]⟩:=rfl
theorem tab156:tab 156=⟨.func,1,8,[.o .nilFunc]⟩:=rfl
theorem tab157:tab 157=⟨.func,1,8,[.o .nilFunc]⟩:=rfl
theorem tab158:tab 158=⟨.struct [(9,0),(3,1),(30,2),(30,6)],10,120,[.s [],.i .i64 0,.i .i64 0,.i .i64 0,.f 0,.nil,.i .i64 0,.i .i64 0,.f 0,.nil]⟩:=rfl
theorem tab159:tab 159=⟨.struct [(9,0),(3,1),(30,2),(30,6)],10,120,[.s [],.i .i64 0,.i .i64 0,.i .i64 0,.f 0,.nil,.i .i64 0,.i .i64 0,.f 0,.nil]⟩:=rfl
theorem tab160:tab 160=⟨.struct [(3,0),(119,1)],6,64,[.i .i64 0,.i .i64 0,.i .i64 0,.i .i64 0,.f 0,.nil]⟩:=rfl
theorem tab161:tab 161=⟨.struct [(3,0),(119,1)],6,64,[.i .i64 0,.i .i64 0,.i .i64 0,.i .i64 0,.f 0,.nil]⟩:=rfl
theorem tab162:tab 162=⟨.func,1,8,[.o .nilFunc]⟩:=rfl
theorem tab163:tab 163=⟨.func,1,8,[.o .nilFunc]⟩:=rfl
theorem tab165:tab 165=⟨.func,1,8,[.o .nilFunc]⟩:=rfl
theorem tab166:tab 166=⟨.func,1,8,[.o .nilFunc]⟩:=rfl
theorem tab168:tab 168=⟨.func,1,8,[.o .nilFunc]⟩:=rfl
theorem tab169:tab 169=⟨.func,1,8,[.o .nilFunc]⟩:=rfl
theorem tab170:tab 170=⟨.func,1,8,[.o .nilFunc]⟩:=rfl
theorem tab171:tab 171=⟨.func,1,8,[.o .nilFunc]⟩:=rfl
theorem tab173:tab 173=⟨.func,1,8,[.o .nilFunc]⟩:=rfl
theorem tab174:tab 174=⟨.struct [(40,0),(9,1),(4,2),(30,3)],7,96,[.nil,.s [],.b false,.i .i64 0,.i .i64 0,.f 0,.nil]⟩:=rfl
theorem tab175:tab 175=⟨.struct [(40,0),(9,1),(4,2),(30,3)],7,96,[.nil,.s [],.b false,.i .i64 0,.i .i64 0,.f 0,.nil]⟩:=rfl
theorem tab176:tab 176=⟨.func,1,8,[.o .nilFunc]⟩:=rfl
theorem tab177:tab 177=⟨.func,1,8,[.o .nilFunc]⟩:=rfl
theorem tab178:tab 178=⟨.func,1,8,[.o .nilFunc]⟩:=rfl
theorem tab179:tab 179=⟨.func,1,8,[.o .nilFunc]⟩:=rfl
theorem tab180:tab 180=⟨.func,1,8,[.o .nilFunc]⟩:=rfl
theorem tab181:tab 181=⟨.func,1,8,[.o .nilFunc]⟩:=rfl
theorem tab182:tab 182=⟨.func,1,8,[.o .nilFunc]⟩:=rfl
theorem tab183:tab 183=⟨.func,1,8,[.o .nilFunc]⟩:=rfl
theorem tab184:tab 184=⟨.func,1,8,[.o .nilFunc]⟩:=rfl
theorem tab185:tab 185=⟨.int .u64,1,8,[.i .u64 0]⟩:=rfl
theorem tab186:tab 186=⟨.array 12 27,12,96,[.f 0,.f 0,.f 0,.f 0,.f 0,.f 0,.f 0,.f 0,.f 0,.f 0,.f 0,.f 0]⟩:=rfl
theorem tab187:tab 187=⟨.func,1,8,[.o .nilFunc]⟩:=rfl
theorem tab188:tab 188=⟨.func,1,8,[.o .nilFunc]⟩:=rfl
theorem tab189:tab 189=⟨.func,1,8,[.o .nilFunc]⟩:=rfl
theorem tab190:tab 190=⟨.func,1,8,[.o .nilFunc]⟩:=rfl
theorem tab191:tab 191=⟨.func,1,8,[.o .nilFunc]⟩:=rfl
theorem tab192:tab 192=⟨.func,1,8,[.o .nilFunc]⟩:=rfl
theorem tab193:tab 193=⟨.func,1,8,[.o .nilFunc]⟩:=rfl
theorem tab194:tab 194=⟨.func,1,8,[.o .nilFunc]⟩:=rfl
theorem tab195:tab 195=⟨.func,1,8,[.o .nilFunc]⟩:=rfl
theorem tab196:tab 196=⟨.func,1,8,[.o .nilFunc]⟩:=rfl
theorem tab197:tab 197=⟨.func,1,8,[.o .nilFunc]⟩:=rfl
theorem tab199:tab 199=⟨.func,1,8,[.o .nilFunc]⟩:=rfl
theorem tab200:tab 200=⟨.array 7 9,7,112,[.s [],.s [],.s [],.s [],.s [],.s [],.s []]⟩:=rfl
theorem tab201:tab 201=⟨.func,1,8,[.o .nilFunc]⟩:=rfl
theorem tab202:tab 202=⟨.func,1,8,[.o .nilFunc]⟩:=rfl
theorem tab203:tab 203=⟨.func,1,8,[.o .nilFunc]⟩:=rfl
theorem tab204:tab 204=⟨.func,1,8,[.o .nilFunc]⟩:=rfl
theorem tab205:tab 205=⟨.func,1,8,[.o .nilFunc]⟩:=rfl
theorem tab206:tab 206=⟨.func,1,8,[.o .nilFunc]⟩:=rfl
theorem tab207:tab 207=⟨.func,1,8,[.o .nilFunc]⟩:=rfl
theorem tab208:tab 208=⟨.array 2 3,2,16,[.i .i64 0,.i .i64 0]⟩:=rfl
theorem tab209:tab 209=⟨.func,1,8,[.o .nilFunc]⟩:=rfl
theorem tab210:tab 210=⟨.func,1,8,[.o .nilFunc]⟩:=rfl
theorem tab211:tab 211=⟨.func,1,8,[.o .nilFunc]⟩:=rfl
theorem tab212:tab 212=⟨.func,1,8,[.o .nilFunc]⟩:=rfl
theorem tab213:tab 213=⟨.func,1,8,[.o .nilFunc]⟩:=rfl
theorem tab214:tab 214=⟨.map 9 4,1,8,[.o (.map none)]⟩:=rfl
theorem tab215:tab 215=⟨.func,1,8,[.o .nilFunc]⟩:=rfl
theorem tab216:tab 216=⟨.func,1,8,[.o .nilFunc]⟩:=rfl
theorem tab217:tab 217=⟨.func,1,8,[.o .nilFunc]⟩:=rfl
theorem tab218:tab 218=⟨.func,1,8,[.o .nilFunc]⟩:=rfl
theorem tab219:tab 219=⟨.func,1,8,[.o .nilFunc]⟩:=rfl
theorem tab220:tab 220=⟨.func,1,8,[.o .nilFunc]⟩:=rfl
theorem tab221:tab 221=⟨.func,1,8,[.o .nilFunc]⟩:=rfl
theorem tab223:tab 223=⟨.func,1,8,[.o .nilFunc]⟩:=rfl
theorem tab225:tab 225=⟨.func,1,8,[.o .nilFunc]⟩:=rfl
theorem tab226:tab 226=⟨.func,1,8,[.o .nilFunc]⟩:=rfl
theorem tab227:tab 227=⟨.func,1,8,[.o .nilFunc]⟩:=rfl
theorem tab228:tab 228=⟨.slice 4,1,24,[.nil]⟩:=rfl
theorem tab230:tab 230=⟨.func,1,8,[.o .nilFunc]⟩:=rfl
theorem tab231:tab 231=⟨.ptr 233,1,8,[.o (.pointer none)]⟩:=rfl
theorem tab232:tab 232=⟨.struct [(40,0),(9,1),(31,2),(3,3)],4,72,[.nil,.s [],.nil,.i .i64 0]⟩:=rfl
theorem tab233:tab 233=⟨.struct [(40,0),(9,1),(31,2),(3,3)],4,72,[.nil,.s [],.nil,.i .i64 0]⟩:=rfl
theorem tab235:tab 235=⟨.func,1,8,[.o .nilFunc]⟩:=rfl
theorem tab236:tab 236=⟨.func,1,8,[.o .nilFunc]⟩:=rfl
theorem tab237:tab 237=⟨.func,1,8,[.o .nilFunc]⟩:=rfl
theorem tab238:tab 238=⟨.func,1,8,[.o .nilFunc]⟩:=rfl
theorem tab239:tab 239=⟨.func,1,8,[.o .nilFunc]⟩:=rfl
theorem tab240:tab 240=⟨.func,1,8,[.o .nilFunc]⟩:=rfl
theorem tab241:tab 241=⟨.func,1,8,[.o .nilFunc]⟩:=rfl
theorem tab242:tab 242=⟨.func,1,8,[.o .nilFunc]⟩:=rfl
theorem tab243:tab 243=⟨.func,1,8,[.o .nilFunc]⟩:=rfl
theorem tab244:tab 244=⟨.struct [(40,0),(40,1)],2,48,[.nil,.nil]⟩:=rfl
theorem tab245:tab 245=⟨.struct [(40,0),(40,1)],2,48,[.nil,.nil]⟩:=rfl
theorem tab246:tab 246=⟨.func,1,8,[.o .nilFunc]⟩:=rfl
theorem tab247:tab 247=⟨.func,1,8,[.o .nilFunc]⟩:=rfl
theorem tab248:tab 248=⟨.array 6 9,6,96,[.s [],.s [],.s [],.s [],.s [],.s []]⟩:=rfl
theorem tab249:tab 249=⟨.func,1,8,[.o .nilFunc]⟩:=rfl
theorem tab250:tab 250=⟨.func,1,8,[.o .nilFunc]⟩:=rfl
theorem tab251:tab 251=⟨.func,1,8,[.o .nilFunc]⟩:=rfl
theorem tab252:tab 252=⟨.func,1,8,[.o .nilFunc]⟩:=rfl
theorem tab253:tab 253=⟨.func,1,8,[.o .nilFunc]⟩:=rfl
theorem tab254:tab 254=⟨.func,1,8,[.o .nilFunc]⟩:=rfl
theorem tab256:tab 256=⟨.func,1,8,[.o .nilFunc]⟩:=rfl
theorem tab257:tab 257=⟨.struct [(9,0),(3,1)],2,24,[.s [],.i .i64 0]⟩:=rfl
theorem tab258:tab 258=⟨.struct [(9,0),(3,1)],2,24,[.s [],.i .i64 0]⟩:=rfl
theorem tab259:tab 259=⟨.slice 264,1,24,[.nil]⟩:=rfl
theorem tab260:tab 260=⟨.func,1,8,[.o .nilFunc]⟩:=rfl
theorem tab262:tab 262=⟨.func,1,8,[.o .nilFunc]⟩:=rfl
theorem tab263:tab 263=⟨.struct [(9,0),(9,1)],2,32,[.s [],.s []]⟩:=rfl
theorem tab264:tab 264=⟨.struct [(9,0),(9,1)],2,32,[.s [],.s []]⟩:=rfl
theorem tab265:tab 265=⟨.func,1,8,[.o .nilFunc]⟩:=rfl
theorem tab266:tab 266=⟨.func,1,8,[.o .nilFunc]⟩:=rfl
theorem tab267:tab 267=⟨.map 3 4,1,8,[.o (.map none)]⟩:=rfl
theorem tab268:tab 268=⟨.func,1,8,[.o .nilFunc]⟩:=rfl
theorem tab269:tab 269=⟨.func,1,8,[.o .nilFunc]⟩:=rfl
theorem tab270:tab 270=⟨.func,1,8,[.o .nilFunc]⟩:=rfl
theorem tab271:tab 271=⟨.func,1,8,[.o .nilFunc]⟩:=rfl
theorem tab272:tab 272=⟨.func,1,8,[.o .nilFunc]⟩:=rfl
theorem tab273:tab 273=⟨.int .u64,1,8,[.i .u64 0]⟩:=rfl
theorem tab274:tab 274=⟨.func,1,8,[.o .nilFunc]⟩:=rfl
theorem tab275:tab 275=⟨.func,1,8,[.o .nilFunc]⟩:=rfl
theorem tab276:tab 276=⟨.func,1,8,[.o .nilFunc]⟩:=rfl
theorem tab277:tab 277=⟨.func,1,8,[.o .nilFunc]⟩:=rfl
theorem tab278:tab 278=⟨.func,1,8,[.o .nilFunc]⟩:=rfl
theorem tab279:tab 279=⟨.func,1,8,[.o .nilFunc]⟩:=rfl
theorem tab280:tab 280=⟨.func,1,8,[.o .nilFunc]⟩:=rfl
theorem tab281:tab 281=⟨.func,1,8,[.o .nilFunc]⟩:=rfl
theorem tab282:tab 282=⟨.func,1,8,[.o .nilFunc]⟩:=rfl
theorem tab283:tab 283=⟨.func,1,8,[.o .nilFunc]⟩:=rfl
theorem tab284:tab 284=⟨.func,1,8,[.o .nilFunc]⟩:=rfl
theorem tab285:tab 285=⟨.func,1,8,[.o .nilFunc]⟩:=rfl
theorem tab286:tab 286=⟨.func,1,8,[.o .nilFunc]⟩:=rfl
theorem tab287:tab 287=⟨.func,1,8,[.o .nilFunc]⟩:=rfl
theorem tab288:tab 288=⟨.func,1,8,[.o .nilFunc]⟩:=rfl
theorem tab289:tab 289=⟨.func,1,8,[.o .nilFunc]⟩:=rfl
theorem tab290:tab 290=⟨.func,1,8,[.o .nilFunc]⟩:=rfl
theorem tab291:tab 291=⟨.func,1,8,[.o .nilFunc]⟩:=rfl
theorem tab292:tab 292=⟨.func,1,8,[.o .nilFunc]⟩:=rfl
theorem tab293:tab 293=⟨.func,1,8,[.o .nilFunc]⟩:=rfl
theorem tab294:tab 294=⟨.int .i64,1,8,[.i .i64 0]⟩:=rfl
theorem tab296:tab 296=⟨.func,1,8,[.o .nilFunc]⟩:=rfl
theorem tab297:tab 297=⟨.func,1,8,[.o .nilFunc]⟩:=rfl
theorem tab298:tab 298=⟨.func,1,8,[.o .nilFunc]⟩:=rfl
theorem tab299:tab 299=⟨.func,1,8,[.o .nilFunc]⟩:=rfl
theorem tab300:tab 300=⟨.func,1,8,[.o .nilFunc]⟩:=rfl
theorem tab301:tab 301=⟨.int .u32,1,4,[.i .u32 0]⟩:=rfl
theorem tab302:tab 302=⟨.func,1,8,[.o .nilFunc]⟩:=rfl
theorem tab303:tab 303=⟨.ptr 305,1,8,[.o (.pointer none)]⟩:=rfl
theorem tab304:tab 304=⟨.struct [(28,0)],1,24,[.nil]⟩:=rfl
theorem tab305:tab 305=⟨.struct [(28,0)],1,24,[.nil]⟩:=rfl
theorem tab306:tab 306=⟨.func,1,8,[.o .nilFunc]⟩:=rfl
theorem tab307:tab 307=⟨.func,1,8,[.o .nilFunc]⟩:=rfl
theorem tab308:tab 308=⟨.func,1,8,[.o .nilFunc]⟩:=rfl
theorem tab309:tab 309=⟨.func,1,8,[.o .nilFunc]⟩:=rfl
theorem tab310:tab 310=⟨.func,1,8,[.o .nilFunc]⟩:=rfl
theorem tab311:tab 311=⟨.func,1,8,[.o .nilFunc]⟩:=rfl
theorem tab312:tab 312=⟨.func,1,8,[.o .nilFunc]⟩:=rfl
theorem tab313:tab 313=⟨.func,1,8,[.o .nilFunc]⟩:=rfl
theorem tab314:tab 314=⟨.func,1,8,[.o .nilFunc]⟩:=rfl
theorem tab315:tab 315=⟨.func,1,8,[.o .nilFunc]⟩:=rfl
theorem tab316:tab 316=⟨.func,1,8,[.o .nilFunc]⟩:=rfl
theorem tab317:tab 317=⟨.func,1,8,[.o .nilFunc]⟩:=rfl
theorem tab318:tab 318=⟨.slice 28,1,24,[.nil]⟩:=rfl
theorem tab319:tab 319=⟨.func,1,8,[.o .nilFunc]⟩:=rfl
theorem tab320:tab 320=⟨.func,1,8,[.o .nilFunc]⟩:=rfl
theorem tab322:tab 322=⟨.func,1,8,[.o .nilFunc]⟩:=rfl
theorem tab323:tab 323=⟨.func,1,8,[.o .nilFunc]⟩:=rfl
theorem tab324:tab 324=⟨.func,1,8,[.o .nilFunc]⟩:=rfl
theorem tab325:tab 325=⟨.func,1,8,[.o .nilFunc]⟩:=rfl
theorem tab326:tab 326=⟨.func,1,8,[.o .nilFunc]⟩:=rfl
theorem tab327:tab 327=⟨.func,1,8,[.o .nilFunc]⟩:=rfl
theorem tab328:tab 328=⟨.func,1,8,[.o .nilFunc]⟩:=rfl
theorem tab329:tab 329=⟨.func,1,8,[.o .nilFunc]⟩:=rfl
theorem tab330:tab 330=⟨.func,1,8,[.o .nilFunc]⟩:=rfl
theorem tab331:tab 331=⟨.func,1,8,[.o .nilFunc]⟩:=rfl
theorem tab332:tab 332=⟨.int .u64,1,8,[.i .u64 0]⟩:=rfl
theorem tab333:tab 333=⟨.func,1,8,[.o .nilFunc]⟩:=rfl
theorem tab334:tab 334=⟨.func,1,8,[.o .nilFunc]⟩:=rfl
theorem tab335:tab 335=⟨.func,1,8,[.o .nilFunc]⟩:=rfl
theorem tab336:tab 336=⟨.ptr 3,1,8,[.o (.pointer none)]⟩:=rfl
theorem tab337:tab 337=⟨.func,1,8,[.o .nilFunc]⟩:=rfl
theorem tab338:tab 338=⟨.func,1,8,[.o .nilFunc]⟩:=rfl
theorem tab339:tab 339=⟨.func,1,8,[.o .nilFunc]⟩:=rfl
theorem tab340:tab 340=⟨.func,1,8,[.o .nilFunc]⟩:=rfl
theorem tab341:tab 341=⟨.func,1,8,[.o .nilFunc]⟩:=rfl
theorem tab342:tab 342=⟨.func,1,8,[.o .nilFunc]⟩:=rfl
theorem tab343:tab 343=⟨.func,1,8,[.o .nilFunc]⟩:=rfl
theorem tab344:tab 344=⟨.func,1,8,[.o .nilFunc]⟩:=rfl
theorem tab345:tab 345=⟨.func,1,8,[.o .nilFunc]⟩:=rfl
theorem tab346:tab 346=⟨.func,1,8,[.o .nilFunc]⟩:=rfl
theorem tab347:tab 347=⟨.func,1,8,[.o .nilFunc]⟩:=rfl
theorem tab348:tab 348=⟨.func,1,8,[.o .nilFunc]⟩:=rfl
theorem tab349:tab 349=⟨.slice 54,1,24,[.nil]⟩:=rfl
theorem tab350:tab 350=⟨.func,1,8,[.o .nilFunc]⟩:=rfl
theorem tab351:tab 351=⟨.func,1,8,[.o .nilFunc]⟩:=rfl
theorem tab352:tab 352=⟨.func,1,8,[.o .nilFunc]⟩:=rfl
theorem tab353:tab 353=⟨.func,1,8,[.o .nilFunc]⟩:=rfl
theorem tab354:tab 354=⟨.func,1,8,[.o .nilFunc]⟩:=rfl
theorem tab355:tab 355=⟨.func,1,8,[.o .nilFunc]⟩:=rfl
theorem tab356:tab 356=⟨.slice 31,1,24,[.nil]⟩:=rfl
theorem tab357:tab 357=⟨.func,1,8,[.o .nilFunc]⟩:=rfl
theorem tab358:tab 358=⟨.func,1,8,[.o .nilFunc]⟩:=rfl
theorem tab359:tab 359=⟨.func,1,8,[.o .nilFunc]⟩:=rfl
theorem tab360:tab 360=⟨.func,1,8,[.o .nilFunc]⟩:=rfl
theorem tab361:tab 361=⟨.func,1,8,[.o .nilFunc]⟩:=rfl
theorem tab362:tab 362=⟨.func,1,8,[.o .nilFunc]⟩:=rfl
theorem tab363:tab 363=⟨.func,1,8,[.o .nilFunc]⟩:=rfl
theorem tab364:tab 364=⟨.func,1,8,[.o .nilFunc]⟩:=rfl
theorem tab365:tab 365=⟨.func,1,8,[.o .nilFunc]⟩:=rfl
theorem tab366:tab 366=⟨.func,1,8,[.o .nilFunc]⟩:=rfl
theorem tab367:tab 367=⟨.ptr 332,1,8,[.o (.pointer none)]⟩:=rfl
theorem tab368:tab 368=⟨.func,1,8,[.o .nilFunc]⟩:=rfl
theorem tab369:tab 369=⟨.func,1,8,[.o .nilFunc]⟩:=rfl
theorem tab370:tab 370=⟨.func,1,8,[.o .nilFunc]⟩:=rfl
theorem tab371:tab 371=⟨.func,1,8,[.o .nilFunc]⟩:=rfl
theorem tab372:tab 372=⟨.func,1,8,[.o .nilFunc]⟩:=rfl
theorem tab373:tab 373=⟨.func,1,8,[.o .nilFunc]⟩:=rfl
theorem tab374:tab 374=⟨.func,1,8,[.o .nilFunc]⟩:=rfl
theorem tab375:tab 375=⟨.func,1,8,[.o .nilFunc]⟩:=rfl
theorem tab377:tab 377=⟨.func,1,8,[.o .nilFunc]⟩:=rfl
theorem tab378:tab 378=⟨.func,1,8,[.o .nilFunc]⟩:=rfl
theorem tab379:tab 379=⟨.func,1,8,[.o .nilFunc]⟩:=rfl
theorem tab380:tab 380=⟨.func,1,8,[.o .nilFunc]⟩:=rfl
theorem tab381:tab 381=⟨.func,1,8,[.o .nilFunc]⟩:=rfl
theorem tab382:tab 382=⟨.func,1,8,[.o .nilFunc]⟩:=rfl
theorem tab383:tab 383=⟨.func,1,8,[.o .nilFunc]⟩:=rfl
theorem tab384:tab 384=⟨.func,1,8,[.o .nilFunc]⟩:=rfl
theorem tab385:tab 385=⟨.func,1,8,[.o .nilFunc]⟩:=rfl
theorem tab386:tab 386=⟨.func,1,8,[.o .nilFunc]⟩:=rfl
theorem tab387:tab 387=⟨.func,1,8,[.o .nilFunc]⟩:=rfl
theorem tab388:tab 388=⟨.func,1,8,[.o .nilFunc]⟩:=rfl
theorem tab389:tab 389=⟨.func,1,8,[.o .nilFunc]⟩:=rfl
theorem tab390:tab 390=⟨.func,1,8,[.o .nilFunc]⟩:=rfl
theorem tab391:tab 391=⟨.array 256 5,256,256,[.i .u8 0,.i .u8 0,.i .u8 0,.i .u8 0,.i .u8 0,.i .u8 0,.i .u8 0,.i .u8 0,.i .u8 0,.i .u8 0,.i .u8 0,.i .u8 0,.i .u8 0,.i .u8 0,.i .u8 0,.i .u8 0,.i .u8 0,.i .u8 0,.i .u8 0,.i .u8 0,.i .u8 0,.i .u8 0,.i .u8 0,.i .u8 0,.i .u8 0,.i .u8 0,.i .u8 0,.i .u8 0,.i .u8 0,.i .u8 0,.i .u8 0,.i .u8 0,.i .u8 0,.i .u8 0,.i .u8 0,.i .u8 0,.i .u8 0,.i .u8 0,.i .u8 0,.i .u8 0,.i .u8 0,.i .u8 0,.i .u8 0,.i .u8 0,.i .u8 0,.i .u8 0,.i .u8 0,.i .u8 0,.i .u8 0,.i .u8 0,.i .u8 0,.i .u8 0,.i .u8 0,.i .u8 0,.i .u8 0,.i .u8 0,.i .u8 0,.i .u8 0,.i .u8 0,.i .u8 0,.i .u8 0,.i .u8 0,.i .u8 0,.i .u8 0,.i .u8 0,.i .u8 0,.i .u8 0,.i .u8 0,.i .u8 0,.i .u8 0,.i .u8 0,.i .u8 0,.i .u8 0,.i .u8 0,.i .u8 0,.i .u8 0,.i .u8 0,.i .u8 0,.i .u8 0,.i .u8 0,.i .u8 0,.i .u8 0,.i .u8 0,.i .u8 0,.i .u8 0,.i .u8 0,.i .u8 0,.i .u8 0,.i .u8 0,.i .u8 0,.i .u8 0,.i .u8 0,.i .u8 0,.i .u8 0,.i .u8 0,.i .u8 0,.i .u8 0,.i .u8 0,.i .u8 0,.i .u8 0,.i .u8 0,.i .u8 0,.i .u8 0,.i .u8 0,.i .u8 0,.i .u8 0,.i .u8 0,.i .u8 0,.i .u8 0,.i .u8 0,.i .u8 0,.i .u8 0,.i .u8 0,.i .u8 0,.i .u8 0,.i .u8 0,.i .u8 0,.i .u8 0,.i .u8 0,.i .u8 0,.i .u8 0,.i .u8 0,.i .u8 0,.i .u8 0,.i .u8 0,.i .u8 0,.i .u8 0,.i .u8 0,.i .u8 0,.i .u8 0,.i .u8 0,.i .u8 0,.i .u8 0,.i .u8 0,.i .u8 0,.i .u8 0,.i .u8 0,.i .u8 0,.i .u8 0,.i .u8 0,.i .u8 0,.i .u8 0,.i .u8 0,.i .u8 0,.i .u8 0,.i .u8 0,.i .u8 0,.i .u8 0,.i .u8 0,.i .u8 0,.i .u8 0,.i .u8 0,.i .u8 0,.i .u8 0,.i .u8 0,.i .u8 0,.i .u8 0,.i .u8 0,.i .u8 0,.i .u8 0,.i .u8 0,.i .u8 0,.i .u8 0,.i .u8 0,.i .u8 0,.i .u8 0,.i .u8 0,.i .u8 0,.i .u8 0,.i .u8 0,.i .u8 0,.i .u8 0,.i .u8 0,.i .u8 0,.i .u8 0,.i .u8 0,.i .u8 0,.i .u8 0,.i .u8 0,.i .u8 0,.i .u8 0,.i .u8 0,.i .u8 0,.i .u8 0,.i .u8 0,.i .u8 0,.i .u8 0,.i .u8 0,.i .u8 0,.i .u8 0,.i .u8 0,.i .u8 0,.i .u8 0,.i .u8 0,.i .u8 0,.i .u8 0,.i .u8 0,.i .u8 0,.i .u8 0,.i .u8 0,.i .u8 0,.i .u8 0,.i .u8 0,.i .u8 0,.i .u8 0,.i .u8 0,.i .u8 0,.i .u8 0,.i .u8 0,.i .u8 0,.i .u8 0,.i .u8 0,.i .u8 0,.i .u8 0,.i .u8 0,.i .u8 0,.i .u8 0,.i .u8 0,.i .u8 0,.i .u8 0,.i .u8 0,.i .u8 0,.i .u8 0,.i .u8 0,.i .u8 0,.i .u8 0,.i .u8 0,.i .u8 0,.i .u8 0,.i .u8 0,.i .u8 0,.i .u8 0,.i .u8 0,.i .u8 0,.i .u8 0,.i .u8 0,.i .u8 0,.i .u8 0,.i .u8 0,.i .u8 0,.i .u8 0,.i .u8 0,.i .u8 0,.i .u8 0,.i .u8 0,.i .u8 0,.i .u8 0,.i .u8 0,.i .u8 0,.i .u8 0,.i .u8 0,.i .u8 0,.i .u8 0,.i .u8 0,.i .u8 0,.i .u8 0]⟩:=rfl
theorem tab392:tab 392=⟨.struct [(5,0),(5,1)],2,2,[.i .u8 0,.i .u8 0]⟩:=rfl
theorem tab393:tab 393=⟨.struct [(5,0),(5,1)],2,2,[.i .u8 0,.i .u8 0]⟩:=rfl
theorem tab394:tab 394=⟨.array 16 393,32,32,[.i .u8 0,.i .u8 0,.i .u8 0,.i .u8 0,.i .u8 0,.i .u8 0,.i .u8 0,.i .u8 0,.i .u8 0,.i .u8 0,.i .u8 0,.i .u8 0,.i .u8 0,.i .u8 0,.i .u8 0,.i .u8 0,.i .u8 0,.i .u8 0,.i .u8 0,.i .u8 0,.i .u8 0,.i .u8 0,.i .u8 0,.i .u8 0,.i .u8 0,.i .u8 0,.i .u8 0,.i .u8 0,.i .u8 0,.i .u8 0,.i .u8 0,.i .u8 0]⟩:=rfl
theorem tab396:tab 396=⟨.func,1,8,[.o .nilFunc]⟩:=rfl
theorem tab397:tab 397=⟨.func,1,8,[.o .nilFunc]⟩:=rfl
theorem tab398:tab 398=⟨.func,1,8,[.o .nilFunc]⟩:=rfl
theorem tab399:tab 399=⟨.struct [(17,0),(17,1),(17,2),(9,3)],4,40,[.o (.pointer none),.o (.pointer none),.o (.pointer none),.s []]⟩:=rfl
theorem tab400:tab 400=⟨.struct [(17,0),(17,1),(17,2),(9,3)],4,40,[.o (.pointer none),.o (.pointer none),.o (.pointer none),.s []]⟩:=rfl
theorem tab404:tab 404=⟨.int .u8,1,1,[.i .u8 0]⟩:=rfl
theorem tab405:tab 405=⟨.int .u8,1,1,[.i .u8 0]⟩:=rfl
theorem tab406:tab 406=⟨.func,1,8,[.o .nilFunc]⟩:=rfl
theorem tab407:tab 407=⟨.ptr 5,1,8,[.o (.pointer none)]⟩:=rfl
theorem tab408:tab 408=⟨.int .i32,1,4,[.i .i32 0]⟩:=rfl
theorem tab409:tab 409=⟨.int .i32,1,4,[.i .i32 0]⟩:=rfl
theorem tab410:tab 410=⟨.struct [(12,0),(12,1),(301,2),(404,3),(5,4),(5,5),(405,6),(406,7),(407,8),(408,9),(409,10)],11,48,[.i .u64 0,.i .u64 0,.i .u32 0,.i .u8 0,.i .u8 0,.i .u8 0,.i .u8 0,.o .nilFunc,.o (.pointer none),.i .i32 0,.i .i32 0]⟩:=rfl
theorem tab411:tab 411=⟨.struct [(12,0),(12,1),(301,2),(404,3),(5,4),(5,5),(405,6),(406,7),(407,8),(408,9),(409,10)],11,48,[.i .u64 0,.i .u64 0,.i .u32 0,.i .u8 0,.i .u8 0,.i .u8 0,.i .u8 0,.o .nilFunc,.o (.pointer none),.i .i32 0,.i .i32 0]⟩:=rfl
theorem aK:Tryz.prog.follows .mixedOrders=true:=by kernel_rfl
attribute [go_sem] tab1 tab2 tab3 tab4 tab5 tab6 tab7 tab8 tab9 tab10 tab11 tab12 tab13 tab14 tab15 tab16 tab17 tab18 tab19 tab20 tab21 tab22 tab23 tab24 tab25 tab26 tab27 tab28 tab29 tab30 tab31 tab32 tab33 tab34 tab35 tab36 tab37 tab38 tab39 tab40 tab42 tab43 tab44 tab45 tab46 tab47 tab48 tab49 tab50 tab51 tab52 tab53 tab54 tab55 tab56 tab58 tab59 tab60 tab61 tab62 tab63 tab64 tab65 tab66 tab67 tab68 tab69 tab70 tab71 tab72 tab73 tab74 tab75 tab77 tab78 tab79 tab80 tab81 tab82 tab83 tab85 tab86 tab87 tab88 tab89 tab90 tab91 tab92 tab93 tab94 tab95 tab96 tab97 tab98 tab99 tab101 tab102 tab103 tab104 tab105 tab106 tab108 tab109 tab111 tab112 tab113 tab114 tab115 tab116 tab117 tab118 tab119 tab120 tab121 tab122 tab123 tab124 tab125 tab126 tab127 tab128 tab129 tab130 tab131 tab132 tab133 tab135 tab137 tab139 tab140 tab142 tab143 tab144 tab145 tab146 tab147 tab148 tab149 tab150 tab151 tab152 tab153 tab154 tab156 tab157 tab158 tab159 tab160 tab161 tab162 tab163 tab165 tab166 tab168 tab169 tab170 tab171 tab173 tab174 tab175 tab176 tab177 tab178 tab179 tab180 tab181 tab182 tab183 tab184 tab185 tab186 tab187 tab188 tab189 tab190 tab191 tab192 tab193 tab194 tab195 tab196 tab197 tab199 tab200 tab201 tab202 tab203 tab204 tab205 tab206 tab207 tab208 tab209 tab210 tab211 tab212 tab213 tab214 tab215 tab216 tab217 tab218 tab219 tab220 tab221 tab223 tab225 tab226 tab227 tab228 tab230 tab231 tab232 tab233 tab235 tab236 tab237 tab238 tab239 tab240 tab241 tab242 tab243 tab244 tab245 tab246 tab247 tab248 tab249 tab250 tab251 tab252 tab253 tab254 tab256 tab257 tab258 tab259 tab260 tab262 tab263 tab264 tab265 tab266 tab267 tab268 tab269 tab270 tab271 tab272 tab273 tab274 tab275 tab276 tab277 tab278 tab279 tab280 tab281 tab282 tab283 tab284 tab285 tab286 tab287 tab288 tab289 tab290 tab291 tab292 tab293 tab294 tab296 tab297 tab298 tab299 tab300 tab301 tab302 tab303 tab304 tab305 tab306 tab307 tab308 tab309 tab310 tab311 tab312 tab313 tab314 tab315 tab316 tab317 tab318 tab319 tab320 tab322 tab323 tab324 tab325 tab326 tab327 tab328 tab329 tab330 tab331 tab332 tab333 tab334 tab335 tab336 tab337 tab338 tab339 tab340 tab341 tab342 tab343 tab344 tab345 tab346 tab347 tab348 tab349 tab350 tab351 tab352 tab353 tab354 tab355 tab356 tab357 tab358 tab359 tab360 tab361 tab362 tab363 tab364 tab365 tab366 tab367 tab368 tab369 tab370 tab371 tab372 tab373 tab374 tab375 tab377 tab378 tab379 tab380 tab381 tab382 tab383 tab384 tab385 tab386 tab387 tab388 tab389 tab390 tab391 tab392 tab393 tab394 tab396 tab397 tab398 tab399 tab400 tab404 tab405 tab406 tab407 tab408 tab409 tab410 tab411
end Go.Proofs.YtlbfnbldeefgmaaGreatDoor
end
