/- Part 5 of the proof of roomStays_card, set without needless blanks. No condition. -/
import Derived.Test.YtlbfnbldeefgmaaGreatDoorT03
import Derived.Test.YtlbfnbldeefgmaaGreatDoorProg
import Derived.ProofKit
import Derived.Below
import Derived.ChangeSame
import Derived.WideKeyArgs
set_option linter.all false
set_option maxRecDepth 100000
set_option maxHeartbeats 16000000
section
namespace Go.Dm
open Go
def zpv:Value->Option PV
 | .bool x=>some (.b x)
 | .int k n=>some (.i k n)
 | .string s=>some (.s s.1.toList)
 | .float .f64 x=>some (.f x)
 | .slice none 0 0=>some .nil
 | .pointer none=>some (.o (.pointer none))
 | .map none=>some (.o (.map none))
 | .nilFunc=>some (.o .nilFunc)
 | .nilIface=>some (.o .nilIface)
 | _=>none
def zPd:List Value->Option (List PV)
 | []=>some []
 | v::l=>match zpv v,zPd l with
  | some p,some ps=>some (p::ps)
  | _,_=>none
theorem zJ5{v:Value}{p:PV}(h:zpv v=some p):iK p=some v/\v.oneCell'=true:=by
 unfold zpv at h;split at h<;>first|cases h;exact⟨rfl,rfl⟩|cases h
theorem SA:∀{l:List Value} {ps:List PV},zPd l=some ps->ps.map iK=l.map some/\ps.length=l.length/\∀v∈l,v.oneCell'=true
 | [],ps,h=>by cases h;exact⟨rfl,rfl,λ_ h=>by cases h⟩
 | v::l,ps,h=>by
  rw[zPd] at h;split at h
  case h_1 p qs h1 h2 =>
   cases h;have a:=zJ5 h1;have b:=SA h2;exact⟨by simp[a.1,b.1],by simp[b.2.1],λx hx=>by rcases List.mem_cons.1 hx with rfl|hx;exact a.2;exact b.2.2 x hx⟩
  case h_2=>cases h
def kOf:Option TypeDesc->TK
 | some .bool=>.bool
 | some (.int k)=>.int k
 | some (.float .f64)=>.float
 | some .string=>.str
 | some (.pointer e)=>.ptr e
 | some (.slice e)=>.slice e
 | some (.array n e)=>.array n e
 | some (.map k e)=>.map k e
 | some (.struct fs)=>.struct (fs.toList.map λf=>(f.type,f.offset))
 | some (.func _ _ _)=>.func
 | some (.interface _)=>.iface
 | _=>.no
theorem zNZ{d:Option TypeDesc}(h:kOf d≠.no):iZ d (kOf d):=by
 unfold kOf at h ⊢;split<;>simp_all[iZ]
def zNb:TI:=⟨.no,0,0,[]⟩
def noB:TK->Bool
 | .no=>true
 | _=>false
def zP7:Value->Bool
 | .agg _=>true
 | _=>false
noncomputable def zPT(P:Program)(t:Nat):TI :=
 match P.info? t with
 | none=>zNb
 | some i=>match i.zero with
  | none=>zNb
  | some z=>match zPd z.cells.toList with
   | none=>zNb
   | some ps =>
    if noB (kOf (P.underlying t))=false/\i.size=ps.length/\i.size≠0/\zP7 z=(kOf (P.underlying t)).agg/\(zP7 z=false->i.size=1/\z.oneCell'=true) then ⟨kOf (P.underlying t),i.size,i.bytes,ps⟩ else zNb
theorem BA{P:Program}{t:Nat}:zM6 P t zNb:=rfl
theorem zMO{P:Program}{t:Nat}:zM6 P t (zPT P t):=by
 unfold zPT;split
 .exact BA
 .rename_i i hi;split
  .exact BA
  .rename_i z hz;split
   .exact BA
   .rename_i ps hp;split
    .rename_i h;obtain⟨h1,h2,h3,h4,h5⟩:=h;have hf:=SA hp;have hk:kOf (P.underlying t)≠.no:=λh=>by rw[h] at h1;cases h1
     have hd:=zNZ hk;have hag:((kOf (P.underlying t)).agg=true->∃cs,z=.agg cs)/\((kOf (P.underlying t)).agg=false->i.size=1/\z.oneCell'=true):=by
      rw[<- h4];refine⟨λh=>?_,h5⟩;cases z<;>first|exact⟨_,rfl⟩|cases h
     unfold zM6;simp only;generalize kOf (P.underlying t)=k at *;cases k
     case no=>exact absurd rfl hk
     all_goals exact⟨hd,i,z,hi,rfl,rfl,hz,hf.1,h2,hag.1,hag.2⟩
    .exact BA
end Go.Dm
namespace Go.Proofs.YtlbfnbldeefgmaaGreatDoor
open Go Go.Dm
set_option maxRecDepth 100000
noncomputable def tab:Tab:=λt=>if [1,2,3,4,5,6,7,8,9,10,11,12,13,14,20,23,26,27,28,30,31,33,36,39,40,47,48,49,51,53,54,56,60,63,64,66,67,70,73,75,81,95,103,105,113,119,128,130,133,159,175,180,185,186,191,200,214,218,227,231,233,245,247,248,258,259,264,267,273,294,316,318,320,332,336,348,349,352,356].contains t then zPT Tryz.prog t else zNb
theorem aD:bF Tryz.prog tab:=λt=>by
 unfold tab;split
 .exact zMO
 .exact BA
def y1:TI:=⟨.struct [(2,0),(3,1),(4,2),(6,3)],4,24,[.i .i64 0,.i .i64 0,.b false,.i .u8 0]⟩
def y2:TI:=⟨.int .i64,1,8,[.i .i64 0]⟩
def y3:TI:=⟨.int .u64,1,8,[.i .u64 0]⟩
def y4:TI:=⟨.struct [(9,0),(12,1)],2,24,[.s [],.i .u64 0]⟩
theorem tab1:tab 1=⟨.func,1,8,[.o .nilFunc]⟩:=by kernel_rfl
theorem tab2:tab 2=⟨.int .i64,1,8,[.i .i64 0]⟩:=by kernel_rfl
theorem tab3:tab 3=⟨.int .i64,1,8,[.i .i64 0]⟩:=by kernel_rfl
theorem tab4:tab 4=⟨.bool,1,1,[.b false]⟩:=by kernel_rfl
theorem tab5:tab 5=⟨.int .u8,1,1,[.i .u8 0]⟩:=by kernel_rfl
theorem tab6:tab 6=⟨.int .u8,1,1,[.i .u8 0]⟩:=by kernel_rfl
theorem tab7:tab 7=⟨.struct [(2,0),(3,1),(4,2),(6,3)],4,24,[.i .i64 0,.i .i64 0,.b false,.i .u8 0]⟩:=by kernel_rfl
theorem tab8:tab 8=⟨.struct [(2,0),(3,1),(4,2),(6,3)],4,24,[.i .i64 0,.i .i64 0,.b false,.i .u8 0]⟩:=by kernel_rfl
theorem tab9:tab 9=⟨.str,1,16,[.s []]⟩:=by kernel_rfl
theorem tab10:tab 10=⟨.str,1,16,[.s []]⟩:=by kernel_rfl
theorem tab11:tab 11=⟨.str,1,16,[.s []]⟩:=by kernel_rfl
theorem tab12:tab 12=⟨.int .u64,1,8,[.i .u64 0]⟩:=by kernel_rfl
theorem tab13:tab 13=⟨.struct [(9,0),(12,1)],2,24,[.s [],.i .u64 0]⟩:=by kernel_rfl
theorem tab14:tab 14=⟨.struct [(9,0),(12,1)],2,24,[.s [],.i .u64 0]⟩:=by kernel_rfl
theorem tab20:tab 20=⟨.iface,1,16,[.o .nilIface]⟩:=by kernel_rfl
theorem tab23:tab 23=⟨.ptr 105,1,8,[.o (.pointer none)]⟩:=by kernel_rfl
theorem tab26:tab 26=⟨.int .i64,1,8,[.i .i64 0]⟩:=by kernel_rfl
theorem tab27:tab 27=⟨.float,1,8,[.f 0]⟩:=by kernel_rfl
theorem tab28:tab 28=⟨.slice 5,1,24,[.nil]⟩:=by kernel_rfl
theorem tab30:tab 30=⟨.struct [(3,0),(3,1),(27,2),(28,3)],4,48,[.i .i64 0,.i .i64 0,.f 0,.nil]⟩:=by kernel_rfl
theorem tab31:tab 31=⟨.slice 9,1,24,[.nil]⟩:=by kernel_rfl
theorem tab33:tab 33=⟨.struct [(26,0),(30,1),(28,5),(31,6)],7,104,[.i .i64 0,.i .i64 0,.i .i64 0,.f 0,.nil,.nil,.nil]⟩:=by kernel_rfl
theorem tab36:tab 36=⟨.struct [(3,0),(9,1),(9,2),(3,3),(27,4),(3,5),(3,6),(28,7)],8,96,[.i .i64 0,.s [],.s [],.i .i64 0,.f 0,.i .i64 0,.i .i64 0,.nil]⟩:=by kernel_rfl
theorem tab39:tab 39=⟨.struct [(3,0),(3,1),(3,2),(3,3),(3,4),(3,5),(3,6),(3,7),(27,8),(28,9),(9,10)],11,112,[.i .i64 0,.i .i64 0,.i .i64 0,.i .i64 0,.i .i64 0,.i .i64 0,.i .i64 0,.i .i64 0,.f 0,.nil,.s []]⟩:=by kernel_rfl
theorem tab40:tab 40=⟨.slice 130,1,24,[.nil]⟩:=by kernel_rfl
theorem tab47:tab 47=⟨.slice 63,1,24,[.nil]⟩:=by kernel_rfl
theorem tab48:tab 48=⟨.slice 133,1,24,[.nil]⟩:=by kernel_rfl
theorem tab49:tab 49=⟨.slice 73,1,24,[.nil]⟩:=by kernel_rfl
theorem tab51:tab 51=⟨.struct [(48,0),(49,1),(3,2)],3,56,[.nil,.nil,.i .i64 0]⟩:=by kernel_rfl
theorem tab53:tab 53=⟨.slice 159,1,24,[.nil]⟩:=by kernel_rfl
theorem tab54:tab 54=⟨.slice 258,1,24,[.nil]⟩:=by kernel_rfl
theorem tab56:tab 56=⟨.struct [(26,0),(33,1),(53,8),(54,9)],10,160,[.i .i64 0,.i .i64 0,.i .i64 0,.i .i64 0,.f 0,.nil,.nil,.nil,.nil,.nil]⟩:=by kernel_rfl
theorem tab60:tab 60=⟨.struct [(3,0),(9,1),(9,2),(9,3),(36,4),(3,12),(28,13)],14,184,[.i .i64 0,.s [],.s [],.s [],.i .i64 0,.s [],.s [],.i .i64 0,.f 0,.i .i64 0,.i .i64 0,.nil,.i .i64 0,.nil]⟩:=by kernel_rfl
theorem tab63:tab 63=⟨.struct [(3,0),(3,1),(3,2),(3,3),(3,4),(39,5),(28,16)],17,176,[.i .i64 0,.i .i64 0,.i .i64 0,.i .i64 0,.i .i64 0,.i .i64 0,.i .i64 0,.i .i64 0,.i .i64 0,.i .i64 0,.i .i64 0,.i .i64 0,.i .i64 0,.f 0,.nil,.s [],.nil]⟩:=by kernel_rfl
theorem tab64:tab 64=⟨.slice 70,1,24,[.nil]⟩:=by kernel_rfl
theorem tab66:tab 66=⟨.slice 67,1,24,[.nil]⟩:=by kernel_rfl
theorem tab67:tab 67=⟨.slice 75,1,24,[.nil]⟩:=by kernel_rfl
theorem tab70:tab 70=⟨.struct [(3,0),(3,1),(3,2),(4,3)],4,32,[.i .i64 0,.i .i64 0,.i .i64 0,.b false]⟩:=by kernel_rfl
theorem tab73:tab 73=⟨.struct [(9,0),(3,1)],2,24,[.s [],.i .i64 0]⟩:=by kernel_rfl
theorem tab75:tab 75=⟨.struct [(9,0),(3,1),(4,2),(30,3)],7,80,[.s [],.i .i64 0,.b false,.i .i64 0,.i .i64 0,.f 0,.nil]⟩:=by kernel_rfl
theorem tab81:tab 81=⟨.slice 3,1,24,[.nil]⟩:=by kernel_rfl
theorem tab95:tab 95=⟨.slice 40,1,24,[.nil]⟩:=by kernel_rfl
theorem tab103:tab 103=⟨.map 3 67,1,8,[.o (.map none)]⟩:=by kernel_rfl
theorem tab105:tab 105=⟨.struct [(49,0),(64,1),(103,2),(3,3)],4,64,[.nil,.nil,.o (.map none),.i .i64 0]⟩:=by kernel_rfl
theorem tab113:tab 113=⟨.array 24 3,24,192,[.i .i64 0,.i .i64 0,.i .i64 0,.i .i64 0,.i .i64 0,.i .i64 0,.i .i64 0,.i .i64 0,.i .i64 0,.i .i64 0,.i .i64 0,.i .i64 0,.i .i64 0,.i .i64 0,.i .i64 0,.i .i64 0,.i .i64 0,.i .i64 0,.i .i64 0,.i .i64 0,.i .i64 0,.i .i64 0,.i .i64 0,.i .i64 0]⟩:=by kernel_rfl
theorem tab119:tab 119=⟨.struct [(3,0),(3,1),(3,2),(27,3),(28,4)],5,56,[.i .i64 0,.i .i64 0,.i .i64 0,.f 0,.nil]⟩:=by kernel_rfl
theorem tab128:tab 128=⟨.func,1,8,[.o .nilFunc]⟩:=by kernel_rfl
theorem tab130:tab 130=⟨.struct [(9,0),(30,1)],5,64,[.s [],.i .i64 0,.i .i64 0,.f 0,.nil]⟩:=by kernel_rfl
theorem tab133:tab 133=⟨.struct [(70,0),(40,4)],5,56,[.i .i64 0,.i .i64 0,.i .i64 0,.b false,.nil]⟩:=by kernel_rfl
theorem tab159:tab 159=⟨.struct [(9,0),(3,1),(30,2),(30,6)],10,120,[.s [],.i .i64 0,.i .i64 0,.i .i64 0,.f 0,.nil,.i .i64 0,.i .i64 0,.f 0,.nil]⟩:=by kernel_rfl
theorem tab175:tab 175=⟨.struct [(40,0),(9,1),(4,2),(30,3)],7,96,[.nil,.s [],.b false,.i .i64 0,.i .i64 0,.f 0,.nil]⟩:=by kernel_rfl
theorem tab180:tab 180=⟨.func,1,8,[.o .nilFunc]⟩:=by kernel_rfl
theorem tab185:tab 185=⟨.int .u64,1,8,[.i .u64 0]⟩:=by kernel_rfl
theorem tab186:tab 186=⟨.array 12 27,12,96,[.f 0,.f 0,.f 0,.f 0,.f 0,.f 0,.f 0,.f 0,.f 0,.f 0,.f 0,.f 0]⟩:=by kernel_rfl
theorem tab191:tab 191=⟨.func,1,8,[.o .nilFunc]⟩:=by kernel_rfl
theorem tab200:tab 200=⟨.array 7 9,7,112,[.s [],.s [],.s [],.s [],.s [],.s [],.s []]⟩:=by kernel_rfl
theorem tab214:tab 214=⟨.map 9 4,1,8,[.o (.map none)]⟩:=by kernel_rfl
theorem tab218:tab 218=⟨.func,1,8,[.o .nilFunc]⟩:=by kernel_rfl
theorem tab227:tab 227=⟨.func,1,8,[.o .nilFunc]⟩:=by kernel_rfl
theorem tab231:tab 231=⟨.ptr 233,1,8,[.o (.pointer none)]⟩:=by kernel_rfl
theorem tab233:tab 233=⟨.struct [(40,0),(9,1),(31,2),(3,3)],4,72,[.nil,.s [],.nil,.i .i64 0]⟩:=by kernel_rfl
theorem tab245:tab 245=⟨.struct [(40,0),(40,1)],2,48,[.nil,.nil]⟩:=by kernel_rfl
theorem tab247:tab 247=⟨.func,1,8,[.o .nilFunc]⟩:=by kernel_rfl
theorem tab248:tab 248=⟨.array 6 9,6,96,[.s [],.s [],.s [],.s [],.s [],.s []]⟩:=by kernel_rfl
theorem tab258:tab 258=⟨.struct [(9,0),(3,1)],2,24,[.s [],.i .i64 0]⟩:=by kernel_rfl
theorem tab259:tab 259=⟨.slice 264,1,24,[.nil]⟩:=by kernel_rfl
theorem tab264:tab 264=⟨.struct [(9,0),(9,1)],2,32,[.s [],.s []]⟩:=by kernel_rfl
theorem tab267:tab 267=⟨.map 3 4,1,8,[.o (.map none)]⟩:=by kernel_rfl
theorem tab273:tab 273=⟨.int .u64,1,8,[.i .u64 0]⟩:=by kernel_rfl
theorem tab294:tab 294=⟨.int .i64,1,8,[.i .i64 0]⟩:=by kernel_rfl
theorem tab316:tab 316=⟨.func,1,8,[.o .nilFunc]⟩:=by kernel_rfl
theorem tab318:tab 318=⟨.slice 28,1,24,[.nil]⟩:=by kernel_rfl
theorem tab320:tab 320=⟨.func,1,8,[.o .nilFunc]⟩:=by kernel_rfl
theorem tab332:tab 332=⟨.int .u64,1,8,[.i .u64 0]⟩:=by kernel_rfl
theorem tab336:tab 336=⟨.ptr 3,1,8,[.o (.pointer none)]⟩:=by kernel_rfl
theorem tab348:tab 348=⟨.func,1,8,[.o .nilFunc]⟩:=by kernel_rfl
theorem tab349:tab 349=⟨.slice 54,1,24,[.nil]⟩:=by kernel_rfl
theorem tab352:tab 352=⟨.func,1,8,[.o .nilFunc]⟩:=by kernel_rfl
theorem tab356:tab 356=⟨.slice 31,1,24,[.nil]⟩:=by kernel_rfl
theorem aL:Tryz.prog.follows .mixedOrders=true:=by kernel_rfl
theorem eT {f:FuncId} {fn:Func} {c:Code} {args:List DV} {h:aB} {R:DV->aB->Prop} (hf:Tryz.prog.funcs[f]?=some fn)
  (hs:∀X0:Ctx,X0.h=h->vc Tryz.prog tab X0 c ⟨fn.ntmps,kH 0 args,h⟩ (XH tab h.length fn.results.toList R))
  (hb:fn.body=some c:=by exact rfl) (hc:(Nat.ble args.length fn.ntmps && !(fn.name == "runtime.NumGoroutine"))=true:=by exact rfl):aA Tryz.prog f args h R:=ent aD aL hf hb hc hs
attribute [go_sem] tab1 tab2 tab3 tab4 tab5 tab6 tab7 tab8 tab9 tab10 tab11 tab12 tab13 tab14 tab20 tab23 tab26 tab27 tab28 tab30 tab31 tab33 tab36 tab39 tab40 tab47 tab48 tab49 tab51 tab53 tab54 tab56 tab60 tab63 tab64 tab66 tab67 tab70 tab73 tab75 tab81 tab95 tab103 tab105 tab113 tab119 tab128 tab130 tab133 tab159 tab175 tab180 tab185 tab186 tab191 tab200 tab214 tab218 tab227 tab231 tab233 tab245 tab247 tab248 tab258 tab259 tab264 tab267 tab273 tab294 tab316 tab318 tab320 tab332 tab336 tab348 tab349 tab352 tab356
end Go.Proofs.YtlbfnbldeefgmaaGreatDoor
end
section
section
namespace Go.Dm
open Go
theorem mapM_at{α β:Type}{f:α->Option β}:∀{l:List α} {ys:List β},l.mapM f=some ys->ys.length=l.length/\∀(i:Nat) (x:α),l[i]?=some x->∃y,ys[i]?=some y/\f x=some y
 | [],ys,h=>by
  simp only[List.mapM_nil,Option.pure_def,Option.some.injEq] at h;subst h;exact⟨rfl,by simp⟩
 | a::l,ys,h=>by
  simp only[List.mapM_cons,Option.bind_eq_bind,Option.bind_eq_some_iff,Option.pure_def,Option.some.injEq] at h;obtain⟨y,hy,zs,hz,rfl⟩:=h;obtain⟨h1,h2⟩:=mapM_at hz;refine⟨by simp[h1],λi x hx=>?_⟩
  cases i with
  | zero=>simp only[List.getElem?_cons_zero,Option.some.injEq] at hx;subst hx;exact⟨y,rfl,hy⟩
  | succ i=>simp only[List.getElem?_cons_succ] at hx ⊢;exact h2 i x hx
theorem rK{α:Type}:∀(n:Nat) {p:Nat->α->Prop},(∀i,i<n->∃x,p i x)->∃l:List α,l.length=n/\∀(i:Nat) (x:α),l[i]?=some x->p i x
 | 0,_,_=>⟨[],rfl,by simp⟩
 | n+1,p,h=>by
  obtain⟨x,hx⟩:=h 0 (by omega);obtain⟨l,h1,h2⟩:=rK n (p:=λi=>p (i+1)) λi hi=>h (i+1) (by omega);refine⟨x::l,by simp[h1],λi y hy=>?_⟩
  cases i with
  | zero=>simp only[List.getElem?_cons_zero,Option.some.injEq] at hy;subst hy;exact hx
  | succ i=>simp only[List.getElem?_cons_succ] at hy;exact h2 i y hy
def LK(T:Tab):Nat->List (Nat × Nat)->Option Nat
 | off,[]=>some off
 | off,f::r=>if f.2=off then LK T (off+(T f.1).size) r else none
def tI(T:Tab):Nat->Nat->Bool
 | 0,_=>false
 | g+1,t =>
  match (T t).k with
  | .bool=>true
  | .int _=>true
  | .float=>true
  | .str=>true
  | .slice e=>tI T g e && decide ((T e).size≠0)
  | .struct fs=>(LK T 0 fs==some (T t).size) && fs.all λf=>tI T g f.1
  | _=>false
def PVs(p:Nat->List PV->Prop):List (Nat × Nat)->List (List PV)->Prop
 | [],[]=>True
 | f::fs,x::xs=>p f.1 x/\PVs p fs xs
 | _,_=>False
def qU(T:Tab):Nat->Nat->List PV->Prop
 | 0,_,_=>False
 | g+1,t,xs =>
  match (T t).k with
  | .bool=>∃b,xs=[.b b]
  | .int k=>∃n,xs=[.i k n]/\(Lit.int k n).wf=true
  | .float=>∃n,xs=[.f n]/\n<18446744073709551616
  | .str=>∃l,xs=[.s l]/\l.length<=9223372036854775807
  | .slice e=>∃es,xs=[.sl (T e).size es]/\(∀x∈es,qU T g e x)/\es.length<=9223372036854775807
  | .struct fs=>∃parts:List (List PV),xs=parts.flatten/\PVs (qU T g) fs parts
  | _=>False
section
variable {P:Program}{T:Tab}{H:Type}{enc:TypeId × Value->H}{w:World}{sp:Nat->Bool}{held:Bool}
variable {t g:Nat}{fs:List (Nat × Nat)}{p:Nat->List PV->Prop}{ps:List (List PV)}
theorem uX(hT:bF P T)(h:(T t).k≠.no):P.cellsOf t=(T t).size:=by
 obtain⟨_,i,z,h1,h2,_⟩:=bS hT h;simp[Program.cellsOf,h1,h2]
theorem qE(h:tI T g t=true):(T t).k≠.no:=by
 cases g with
 | zero=>simp[tI] at h
 | succ g=>intro e;simp[tI,e] at h
theorem zG8{a:Addr}{n:Nat}{cs:List Value}(h:w.cells? 0 a n=some cs):cs.length=n/\∀(i:Nat) (v:Value),cs[i]?=some v->w.cell? (a.add i)=some v:=by
 simp only[World.cells?,Nat.zero_le,if_true] at h;obtain⟨h1,h2⟩:=mapM_at h;refine⟨by simpa using h1,λi v hv=>?_⟩
 have hi:i<n:=by have:=aH hv;rw[h1] at this;simpa using this
 obtain⟨y,h3,h4⟩:=h2 i i (by simp[hi]);rw[hv] at h3;cases h3;exact h4
theorem CM(hT:bF P T):∀(g:Nat) {t fuel:Nat} {cs:List Value} {d:DataW H} {ps:List MemPlace},tI T g t=true->DataW.trod enc P w 0 sp held fuel t cs=some (d,ps) ->
  ∃xs,qU T g t xs/\bI w (λb=>b<w.heap.size) xs cs
 | 0,_,_,_,_,_,hg,_=>by simp[tI] at hg
 | g+1,t,0,_,_,_,_,h=>by simp[DataW.trod] at h
 | g+1,t,fuel+1,cs,d,ps,hg,h=>by
  have hkn:=qE hg;cases hk:(T t).k with
  | no=>exact absurd hk hkn
  | bool =>
   simp only[DataW.trod,yM hT hk] at h;simp only[qU,hk]
   match cs,h with
   | [.bool b],_=>exact⟨_,⟨b,rfl⟩,by simp[bI,dF]⟩
  | int k =>
   simp only[DataW.trod,pT hT hk] at h;simp only[qU,hk]
   match cs,h with
   | [.int k' n],h =>
    simp only at h;split at h
    .rename_i hw;exact⟨_,⟨n,rfl,hw.2⟩,by simp[bI,dF,hw.1]⟩
    .cases h
  | float =>
   have hu:P.underlying t=some (.float .f64):=by
    have:=(bS hT hkn).1;rw[hk] at this;revert this;cases P.underlying t with
    | none=>simp[iZ]
    | some d=>cases d<;>simp[iZ]
   simp only[DataW.trod,hu] at h;simp only[qU,hk]
   match cs,h with
   | [.float k' n],h =>
    simp only at h;split at h
    .rename_i hw;exact⟨_,⟨n,rfl,by simpa[Lit.wf] using hw.2⟩,by simp[bI,dF,hw.1]⟩
    .cases h
  | str =>
   simp only[DataW.trod,mC hT hk] at h;simp only[qU,hk]
   match cs,h with
   | [.string s],h =>
    simp only at h;split at h
    .rename_i hw;exact⟨_,⟨s.data.toList,rfl,by unfold maxLen at hw;simpa using hw⟩,by simp[bI,dF]⟩
    .cases h
  | slice e =>
   simp only[tI,hk,Bool.and_eq_true,decide_eq_true_eq] at hg;have hke:=qE hg.1;have hce:=uX hT hke;simp only[DataW.trod,aU hT hk] at h;simp only[qU,hk]
   match cs,h with
   | [.slice none 0 0],_=>exact⟨_,⟨[],rfl,by simp,by simp⟩,⟨⟨none,0,rfl,Nat.le_refl _,.inl rfl⟩,True.intro⟩⟩
   | [.slice (some a) len cap],h =>
    simp only at h;split at h
    .rename_i hb;obtain⟨_,hlc,hcm⟩:=hb;simp only[Option.bind_eq_some_iff,Option.map_eq_some_iff] at h;obtain⟨elems,he,_⟩:=h;obtain⟨h1,h2⟩:=mapM_at he;simp only[List.length_range] at h1;have h3:∀i,i<len->∃xs,qU T g e xs/\xs.length=(T e).size/\∃cs,bI w (λb=>b<w.heap.size) xs cs/\∀(j:Nat) (v:Value),cs[j]?=some v->w.cell? ((a.add (i*(T e).size)).add j)=some v:=by
      intro i hi;obtain⟨y,_,hy⟩:=h2 i i (by simp[hi]);simp only[Option.bind_eq_some_iff] at hy;obtain⟨ci,hc,ht⟩:=hy;simp only[hce] at hc;obtain⟨hl,hcell⟩:=zG8 hc;obtain⟨xs,hx,hr⟩:=CM hT g hg.1 (d:=y.1) (ps:=y.2) ht;exact⟨xs,hx,by rw[hr.length,hl],ci,hr,hcell⟩
     obtain⟨es,he1,he2⟩:=rK len h3;refine⟨_,⟨es,rfl,λx hx=>?_,by unfold maxLen at hcm;omega⟩,?_⟩
     .obtain⟨i,hi⟩:=List.mem_iff_getElem?.1 hx;exact(he2 i x hi).1
     .simp only[bI,dF];refine⟨⟨some a,cap,by rw[he1],by omega,?_⟩,trivial⟩
      rcases Nat.eq_zero_or_pos len with hz|hz
      .left;exact List.eq_nil_of_length_eq_zero (by omega)
      .right;have h0:es[0]?=some es[0]:=List.getElem?_eq_getElem (by omega);obtain⟨_,hx2,c0,hx3,hx4⟩:=he2 0 _ h0;have hc0:0<c0.length:=by rw[<- hx3.length,hx2];omega
       have hcell:=hx4 0 _ (List.getElem?_eq_getElem hc0);have hadd:(a.add (0*(T e).size)).add 0=a:=by simp[Addr.add]
       rw [hadd] at hcell;obtain⟨bl,off,spot⟩:=a;have hsp:spot=none:=by
        cases spot with
        | none=>rfl
        | some q =>
         simp only[World.cell?] at hcell;split at hcell<;>simp_all
       subst hsp;have hbl:bl<w.heap.size:=by
        rcases Nat.lt_or_ge bl w.heap.size with hlt|hge
        .exact hlt
        .simp only[World.cell?,Array.getElem?_eq_none hge] at hcell;cases hcell
       refine⟨bl,off,rfl,hbl,fC.mk λj x hj=>?_⟩;obtain⟨_,y2,cj,y3,y4⟩:=he2 j x hj;refine⟨y2,gW.mk λq z hq=>?_⟩;obtain⟨v,hv,hrv⟩:=y3.at_ hq;have:=y4 q v hv;rw[iG,iG] at this;exact⟨v,this,hrv⟩
    .cases h
  | struct fs =>
   simp only[tI,hk,Bool.and_eq_true,List.all_eq_true,beq_iff_eq] at hg;obtain⟨fields,hu,hfs⟩:=nA hT hk;simp only[DataW.trod,hu,uX hT hkn] at h;simp only[qU,hk];split at h
   .rename_i hlen;simp only[Option.map_eq_some_iff] at h;obtain⟨xs,hx,_⟩:=h;obtain⟨h1,h2⟩:=mapM_at hx;have key:∀(fl:List Field) (off:Nat),LK T off (fl.map λf=>(f.type,f.offset))=some (T t).size->(∀f∈fl,f∈fields.toList) ->
      ∃parts,PVs (qU T g) (fl.map λf=>(f.type,f.offset)) parts/\bI w (λb=>b<w.heap.size) parts.flatten (cs.drop off):=by
     intro fl
     induction fl with
     | nil =>
      intro off hc _;simp only[List.map_nil,LK,Option.some.injEq] at hc;refine⟨[],trivial,?_⟩;rw[List.drop_of_length_le (by omega)];exact trivial
     | cons f fl ih =>
      intro off hc hin;simp only[List.map_cons,LK] at hc;split at hc
      .rename_i ho;obtain⟨parts,hp,hr⟩:=ih _ hc λy hy=>hin y (List.mem_cons_of_mem _ hy);have hf:=hin f List.mem_cons_self;have hgf:tI T g f.type=true:=hg.2 (f.type,f.offset) (by rw[<- hfs];exact List.mem_map.2 ⟨f,hf,rfl⟩);obtain⟨i,hi⟩:=List.mem_iff_getElem?.1 hf;obtain⟨y,_,hy⟩:=h2 i f hi;simp only[uX hT (qE hgf)] at hy;obtain⟨x,hx1,hx2⟩:=CM hT g hgf (d:=y.1) (ps:=y.2) hy;refine⟨x::parts,⟨hx1,hp⟩,?_⟩;have ec:cs.drop off=((cs.drop off).take (T f.type).size)++cs.drop (off+(T f.type).size):=by
        rw[<- List.drop_drop,List.take_append_drop]
       rw[List.flatten_cons,ec];rw[show f.offset=off from ho] at hx2
       exact hx2.append hr
      .cases hc
    obtain⟨parts,hp,hr⟩:=key fields.toList 0 (by rw[hfs];exact hg.1) λ_ h=>h;rw[hfs] at hp;exact⟨_,⟨parts,rfl,hp⟩,by simpa using hr⟩
   .cases h
  | _=>simp[tI,hk] at hg
theorem BK{xs:List PV}(hk:(T t).k=.struct fs)(h:qU T (g+1) t xs):∃parts:List (List PV),xs=parts.flatten/\PVs (qU T g) fs parts:=by
 simp only[qU,hk] at h;exact h
theorem dP{f:Nat × Nat}(h:PVs p (f::fs) ps):∃x r,ps=x::r/\p f.1 x/\PVs p fs r:=by
 cases ps with
 | nil=>exact h.elim
 | cons x r=>exact⟨x,r,rfl,h.1,h.2⟩
theorem zFF(h:PVs p [] ps):ps=[]:=by
 cases ps with
 | nil=>rfl
 | cons x r=>exact h.elim
end
end Go.Dm
end
section
namespace Go.Dm
open Go Go.RowKit Go.ChangeShapes Go.WideShapes
def fS(W:World):Ctx:=⟨W,λb=>b<W.heap.size,λ_=>none,[]⟩
theorem NO(W:World):HInv (fS W) :=
 ⟨λ_ h=>h,λid db h=>by simp[fS] at h,λid db g h=>by simp[fS] at h,λid db id' db' g g' h=>by simp[fS] at h⟩
section
variable {P:Program}{T:Tab}{H:Type}{enc:TypeId × Value->H}
variable {W W':World}{fn:Func}{args:Array Value}
def zO0(ti:TI)(xs:List PV):DV:=if ti.k.agg then .agg (xs.map .p) else .c (.p (xs.headD .nil))
theorem zG1(hT:bF P T){base:Nat}{sp:Nat->Bool}{held:Bool}(g:Nat){t:Nat}{v:Value}{d:DataW H}{ps:List MemPlace}(hg:tI T g t=true)(hv:Value.okWide P W .any base t v)
 (h:DataW.Trod enc P W 0 sp held t v d ps):∃xs,qU T g t xs/\bA (fS W) (zO0 (T t) xs) v:=by
 obtain⟨fuel,hf⟩:=h;obtain⟨xs,hx,hr⟩:=CM hT g hg hf;refine⟨xs,hx,?_⟩;have hkn:=qE hg;cases g with
 | zero=>simp[tI] at hg
 | succ g =>
  have scalar:(∃x,xs=[x])->v.cells = #[v]->(T t).k.agg=false->bA (fS W) (zO0 (T t) xs) v:=by
   rintro⟨x,rfl⟩ hc ha;rw[hc] at hr;simp only[zO0,ha,Bool.false_eq_true,if_false,List.headD_cons];exact yH (X:=fS W) hr.1
  cases hk:(T t).k with
  | no=>exact absurd hk hkn
  | bool =>
   simp only[qU,hk] at hx;obtain⟨b,rfl⟩:=hx;refine scalar ⟨_,rfl⟩ ?_ (by rw[hk];rfl);simp only[Value.okWide,yM hT hk,Cell.okWide,Cell.ok] at hv;cases v<;>first|rfl|exact hv.elim
  | int k =>
   simp only[qU,hk] at hx;obtain⟨b,rfl,_⟩:=hx;refine scalar ⟨_,rfl⟩ ?_ (by rw[hk];rfl);simp only[Value.okWide,pT hT hk,Cell.okWide,Cell.ok] at hv;cases v<;>first|rfl|exact hv.elim
  | float =>
   have hu:P.underlying t=some (.float .f64):=by
    have:=(bS hT hkn).1;rw[hk] at this;revert this;cases P.underlying t with
    | none=>simp[iZ]
    | some d=>cases d<;>simp[iZ]
   simp only[qU,hk] at hx;obtain⟨b,rfl,_⟩:=hx;refine scalar ⟨_,rfl⟩ ?_ (by rw[hk];rfl);simp only[Value.okWide,hu,Cell.okWide,Cell.ok] at hv;cases v<;>first|rfl|exact hv.elim
  | str =>
   simp only[qU,hk] at hx;obtain⟨b,rfl,_⟩:=hx;refine scalar ⟨_,rfl⟩ ?_ (by rw[hk];rfl);simp only[Value.okWide,mC hT hk,Cell.okWide,Cell.ok] at hv;cases v<;>first|rfl|exact hv.elim
  | slice e =>
   simp only[qU,hk] at hx;obtain⟨b,rfl,_⟩:=hx;refine scalar ⟨_,rfl⟩ ?_ (by rw[hk];rfl);simp only[Value.okWide,aU hT hk,Cell.okWide,Cell.ok] at hv;cases v<;>first|rfl|exact hv.elim
  | struct fs =>
   obtain⟨fields,hu,_⟩:=nA hT hk;simp only[Value.okWide,hu] at hv;obtain⟨cs,rfl,_⟩:=hv;simp only[zO0,hk,TK.agg,if_true];exact⟨cs.toList,by simp,bC.of_ps (X:=fS W) hr⟩
  | _=>simp[tI,hk] at hg
theorem zED {f:FuncId} (hf:P.funcs[f]?=some fn) (hb:fn.body.isSome=true) (hn:(fn.name == "runtime.NumGoroutine")=false) {ds:List DV} (hc:aA P f ds [] λd h=>d=.c (.p (.b true))/\h=[])
 (hsh:W.ShapedOpen P) (hsd:zKT W) (hr:dL (fS W) ds args.toList):Calls P f args W λe W'=>e=.returned (.bool true)/\Below W.heap.size W W':=by
 have key:∀v W',Ret (fS W) (λd h=>d=.c (.p (.b true))/\h=[]) v W'->v=.bool true/\Below W.heap.size W W':=by
  rintro v W' ⟨d,X',rfl,_,hs,hd,rfl,_⟩;refine⟨hd,hs.os,hs.tape,hs.output.1,hs.size,λk hk=>hs.frame k hk λid db g h=>by simp[fS] at h⟩
 rcases hc (fS W) args.toList rfl (NO W) ⟨W,⟨hsh,hsd⟩,λb hb=>⟨hb,rfl⟩⟩ hr with⟨_,h⟩|⟨v,w',h,_⟩
 .exact h.mono λe W' ⟨v,he,hv⟩=>by
   obtain⟨rfl,h2⟩:=key v W' hv;exact⟨he,h2⟩
 ·exfalso;obtain⟨c,hc⟩:=Option.isSome_iff_exists.1 hb;have hn':¬ fn.name = "runtime.NumGoroutine" := by simpa using hn
  simp[callFunc,hf,hn',hc] at h
theorem uP(hl:laidOutB P=true){sp':Nat->Bool}(hb:Below W.heap.size W W'):∀{ts:List TypeId} {vs:List Value} {ds:List (DataW H)} {ps:List MemPlace},(∀t∈ts,P.readableRec t=true/\t<P.types.size) ->
  DataW.TrodAll enc P W 0 (λ_=>true) true ts vs ds ps->(∀p∈ps,p.block<W.heap.size)->(∀p∈ps,sp' p.block=true)->DataW.TrodAll enc P W' 0 sp' true ts vs ds ps
 | [],[],[],_,_,h,_,_=>h
 | t::ts,v::vs,d::ds,ps,hr,h,hlt,hs=>by
  obtain ⟨p,q,h1,h2,rfl⟩:=h;have ht:=hr t List.mem_cons_self;exact⟨p,q,WideElems.Trod_stays hl ht.1 ht.2 h1 (λx hx=>hb.same (hlt x (List.mem_append_left _ hx))) (λx hx=>hs x (List.mem_append_left _ hx)),
   uP hl hb (λt ht=>hr t (List.mem_cons_of_mem _ ht)) h2 (λx hx=>hlt x (List.mem_append_right _ hx)) (λx hx=>hs x (List.mem_append_right _ hx)),rfl⟩
 | [],_::_,_,_,_,h,_,_=>by cases h
 | [],[],_::_,_,_,h,_,_=>by cases h
 | _::_,[],_,_,_,h,_,_=>by cases h
 | _::_,_::_,[],_,_,h,_,_=>by cases h
theorem zIM{s:ChangeSpec}{handsOn again fresh:Bool}{ds gs:List (DataW H)}{before:List MemPlace}{tb:Nat}(hl:laidOutB P=true)(hvars:s.vars=[])
 (hW:DataW.Whole enc P fn.params.toList s.vars false W args.toList ds gs before)(hrd:∀t∈fn.params.toList,P.readableRec t=true/\t<P.types.size)(hres:fn.resultTypes = #[tb])(hbool:P.underlying tb=some .bool)
 (hfn:s.fn H (ds++gs) = { results:=[.lit (.bool true)],args:=ds })(hb:Below W.heap.size W W'):s.post enc P fn false fresh handsOn again W args (.bool true) W':=by
 have hlt:∀p∈before,p.block<W.heap.size:=λp hp=>hW.lt p hp;have hold:∀p∈before,(λb=>decide (b<W.heap.size)) p.block=true:=λp hp=>by simpa using hlt p hp
 have hW0:=hW;obtain⟨pa,pv,hA,hV,hps,hz,hn⟩:=hW0;rw[hvars] at hV;obtain⟨rfl,rfl⟩:=trodVars_none hV;rw[List.append_nil] at hps;subst hps;have hargs:∀sp:Nat->Bool,(∀p∈before,sp p.block=true)->DataW.TrodAll enc P W' 0 sp true fn.params.toList args.toList ds before:=λsp hs=>uP hl hb hrd hA hlt hs;have hr:∀(b:Nat) (sp:Nat->Bool) (hd:Bool),DataW.TrodAll enc P W' b sp hd fn.resultTypes.toList ((Value.bool true).resultList fn.resultTypes.size) [.lit (.bool true)] []:=by
  intro b sp hd;rw[hres];exact trodAll_mk1 ⟨1,by simp[DataW.trod,Value.cells,hbool]⟩
 have hok:∀(j:Nat) (t:TypeId) (r:Value),fn.resultTypes[j]?=some t->((Value.bool true).resultList fn.resultTypes.size)[j]?=some r->Value.okWide P W' .any 0 t r:=by
  rw[hres];intro j t r h1 h2;cases j with
  | zero =>
   simp only[Array.size_singleton,Value.resultList] at h2;simp at h1 h2;subst h1;subst h2;simp[Value.okWide,hbool,Cell.okWide,Cell.ok]
  | succ j=>simp at h1
 refine⟨ds,[],before,[],before,[],hW,?_,?_,?_,World.keptBut_mono (λp hp=>⟨hp,.inr (by simpa using hp)⟩) (hb.frame (·∈before)),λ_=>?_⟩
 .rw[hfn];exact hr _ _ _
 .rw[hfn];exact hargs _ hold
 .rw[hvars,hfn];rfl
 .refine ⟨hok,_,[],([]++before)++[],⟨[]++before,[],trodAll_append (hargs _ (λ_ _=>rfl)) (hr _ _ _),(by rw[hvars];exact rfl),rfl,?_,?_⟩,?_⟩
  .intro b off hp;have hin:MemPlace.cell b off∈before:=by simpa using hp
   rw[hb.frozen (hlt _ hin)];exact hz b off hin
  .intro ha;cases ha
  .intro p hp _;simpa using hp
theorem PX{l:List TypeId}(h:(l.all λt=>P.readableRec t && decide (t<P.types.size))=true):∀t∈l,P.readableRec t=true/\t<P.types.size:=λt ht=>by
 have:=List.all_eq_true.1 h t ht;simpa using this
theorem XN: ∀{es:List (List PV)},(∀x∈es,∃n,x=[.i .u8 n]/\(Lit.int .u8 n).wf=true)->∃l,es=bJ l/\l.length=es.length
 | [],_=>⟨[],rfl,rfl⟩
 | x::es,h=>by
  obtain⟨n,rfl,hn⟩:=h x List.mem_cons_self;obtain⟨l,rfl,hl⟩:=XN λy hy=>h y (List.mem_cons_of_mem _ hy);have hx:0<=n/\n<=255:=by simpa[Lit.wf,IntKind.min,IntKind.max,IntKind.signed,IntKind.bits] using hn
  exact⟨UInt8.ofNat n.toNat::l,zNm n l hx.1 hx.2,by simp[hl]⟩
end
end Go.Dm
end
end
