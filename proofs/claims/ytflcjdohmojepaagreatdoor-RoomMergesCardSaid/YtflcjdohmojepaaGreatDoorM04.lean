/- Part 5 of the proof of roomMerges_card, set without needless blanks. No condition. -/
import Derived.Test.YtflcjdohmojepaaGreatDoorM03
import Derived.Test.YtflcjdohmojepaaGreatDoorProg
import Derived.ProofKit
import Derived.Below
import Derived.ChangeSame
import Derived.WideKeyArgs
set_option linter.all false
set_option maxRecDepth 100000
set_option maxHeartbeats 16000000
section
namespace Go.Dm
open Go
def zpv:Value->Option PV
 | .bool x=>some (.b x)
 | .int k n=>some (.i k n)
 | .string s=>some (.s s.1.toList)
 | .float .f64 x=>some (.f x)
 | .slice none 0 0=>some .nil
 | .pointer none=>some (.o (.pointer none))
 | .map none=>some (.o (.map none))
 | .nilFunc=>some (.o .nilFunc)
 | .nilIface=>some (.o .nilIface)
 | _=>none
def zQg:List Value->Option (List PV)
 | []=>some []
 | v::l=>match zpv v,zQg l with
  | some p,some ps=>some (p::ps)
  | _,_=>none
theorem zLa{v:Value}{p:PV}(h:zpv v=some p):gX p=some v/\v.oneCell'=true:=by
 unfold zpv at h;split at h<;>first|cases h;exact⟨rfl,rfl⟩|cases h
theorem VN:∀{l:List Value} {ps:List PV},zQg l=some ps->ps.map gX=l.map some/\ps.length=l.length/\∀v∈l,v.oneCell'=true
 | [],ps,h=>by cases h;exact⟨rfl,rfl,λ_ h=>by cases h⟩
 | v::l,ps,h=>by
  rw[zQg] at h;split at h
  case h_1 p qs h1 h2 =>
   cases h;have a:=zLa h1;have b:=VN h2;exact⟨by simp[a.1,b.1],by simp[b.2.1],λx hx=>by rcases List.mem_cons.1 hx with rfl|hx;exact a.2;exact b.2.2 x hx⟩
  case h_2=>cases h
def kOf:Option TypeDesc->TK
 | some .bool=>.bool
 | some (.int k)=>.int k
 | some (.float .f64)=>.float
 | some .string=>.str
 | some (.pointer e)=>.ptr e
 | some (.slice e)=>.slice e
 | some (.array n e)=>.array n e
 | some (.map k e)=>.map k e
 | some (.struct fs)=>.struct (fs.toList.map λf=>(f.type,f.offset))
 | some (.func _ _ _)=>.func
 | some (.interface _)=>.iface
 | _=>.no
theorem zO0{d:Option TypeDesc}(h:kOf d≠.no):iR d (kOf d):=by
 unfold kOf at h ⊢;split<;>simp_all[iR]
def zOc:TI:=⟨.no,0,0,[]⟩
def noB:TK->Bool
 | .no=>true
 | _=>false
def zRg:Value->Bool
 | .agg _=>true
 | _=>false
noncomputable def zQ3(P:Program)(t:Nat):TI :=
 match P.info? t with
 | none=>zOc
 | some i=>match i.zero with
  | none=>zOc
  | some z=>match zQg z.cells.toList with
   | none=>zOc
   | some ps =>
    if noB (kOf (P.underlying t))=false/\i.size=ps.length/\i.size≠0/\zRg z=(kOf (P.underlying t)).agg/\(zRg z=false->i.size=1/\z.oneCell'=true) then ⟨kOf (P.underlying t),i.size,i.bytes,ps⟩ else zOc
theorem CE{P:Program}{t:Nat}:zN8 P t zOc:=rfl
theorem zNO{P:Program}{t:Nat}:zN8 P t (zQ3 P t):=by
 unfold zQ3;split
 .exact CE
 .rename_i i hi;split
  .exact CE
  .rename_i z hz;split
   .exact CE
   .rename_i ps hp;split
    .rename_i h;obtain⟨h1,h2,h3,h4,h5⟩:=h;have hf:=VN hp;have hk:kOf (P.underlying t)≠.no:=λh=>by rw[h] at h1;cases h1
     have hd:=zO0 hk;have hag:((kOf (P.underlying t)).agg=true->∃cs,z=.agg cs)/\((kOf (P.underlying t)).agg=false->i.size=1/\z.oneCell'=true):=by
      rw[<- h4];refine⟨λh=>?_,h5⟩;cases z<;>first|exact⟨_,rfl⟩|cases h
     unfold zN8;simp only;generalize kOf (P.underlying t)=k at *;cases k
     case no=>exact absurd rfl hk
     all_goals exact⟨hd,i,z,hi,rfl,rfl,hz,hf.1,h2,hag.1,hag.2⟩
    .exact CE
end Go.Dm
namespace Go.Proofs.YtflcjdohmojepaaGreatDoor
open Go Go.Dm
set_option maxRecDepth 100000
noncomputable def tab:Tab:=λt=>if [1,2,3,4,5,6,7,8,9,10,11,12,13,14,20,22,23,24,27,30,32,35,46,48,52,54,55,56,58,59,60,62,63,65,68,73,75,82,84,100,108,109,114,129,131,135,138,148,149,154,158,161,162,167,170,174,183,187,191,196,201,211,215,217,219,230,232,241,243,259,260,263,269,273,309,325].contains t then zQ3 Tryz.prog t else zOc
theorem aF:bM Tryz.prog tab:=λt=>by
 unfold tab;split
 .exact zNO
 .exact CE
def y1:TI:=⟨.struct [(2,0),(3,1),(4,2),(6,3)],4,24,[.i .i64 0,.i .i64 0,.b false,.i .u8 0]⟩
def y2:TI:=⟨.int .i64,1,8,[.i .i64 0]⟩
def y3:TI:=⟨.int .u64,1,8,[.i .u64 0]⟩
def y4:TI:=⟨.struct [(9,0),(12,1)],2,24,[.s [],.i .u64 0]⟩
theorem tab1:tab 1=⟨.func,1,8,[.o .nilFunc]⟩:=by kernel_rfl
theorem tab2:tab 2=⟨.int .i64,1,8,[.i .i64 0]⟩:=by kernel_rfl
theorem tab3:tab 3=⟨.int .i64,1,8,[.i .i64 0]⟩:=by kernel_rfl
theorem tab4:tab 4=⟨.bool,1,1,[.b false]⟩:=by kernel_rfl
theorem tab5:tab 5=⟨.int .u8,1,1,[.i .u8 0]⟩:=by kernel_rfl
theorem tab6:tab 6=⟨.int .u8,1,1,[.i .u8 0]⟩:=by kernel_rfl
theorem tab7:tab 7=⟨.struct [(2,0),(3,1),(4,2),(6,3)],4,24,[.i .i64 0,.i .i64 0,.b false,.i .u8 0]⟩:=by kernel_rfl
theorem tab8:tab 8=⟨.struct [(2,0),(3,1),(4,2),(6,3)],4,24,[.i .i64 0,.i .i64 0,.b false,.i .u8 0]⟩:=by kernel_rfl
theorem tab9:tab 9=⟨.str,1,16,[.s []]⟩:=by kernel_rfl
theorem tab10:tab 10=⟨.str,1,16,[.s []]⟩:=by kernel_rfl
theorem tab11:tab 11=⟨.str,1,16,[.s []]⟩:=by kernel_rfl
theorem tab12:tab 12=⟨.int .u64,1,8,[.i .u64 0]⟩:=by kernel_rfl
theorem tab13:tab 13=⟨.struct [(9,0),(12,1)],2,24,[.s [],.i .u64 0]⟩:=by kernel_rfl
theorem tab14:tab 14=⟨.struct [(9,0),(12,1)],2,24,[.s [],.i .u64 0]⟩:=by kernel_rfl
theorem tab20:tab 20=⟨.iface,1,16,[.o .nilIface]⟩:=by kernel_rfl
theorem tab22:tab 22=⟨.slice 75,1,24,[.nil]⟩:=by kernel_rfl
theorem tab23:tab 23=⟨.slice 82,1,24,[.nil]⟩:=by kernel_rfl
theorem tab24:tab 24=⟨.ptr 58,1,8,[.o (.pointer none)]⟩:=by kernel_rfl
theorem tab27:tab 27=⟨.slice 84,1,24,[.nil]⟩:=by kernel_rfl
theorem tab30:tab 30=⟨.int .i64,1,8,[.i .i64 0]⟩:=by kernel_rfl
theorem tab32:tab 32=⟨.slice 100,1,24,[.nil]⟩:=by kernel_rfl
theorem tab35:tab 35=⟨.slice 108,1,24,[.nil]⟩:=by kernel_rfl
theorem tab46:tab 46=⟨.slice 52,1,24,[.nil]⟩:=by kernel_rfl
theorem tab48:tab 48=⟨.slice 135,1,24,[.nil]⟩:=by kernel_rfl
theorem tab52:tab 52=⟨.struct [(9,0),(3,1)],2,24,[.s [],.i .i64 0]⟩:=by kernel_rfl
theorem tab54:tab 54=⟨.struct [(3,0),(3,1),(3,2),(4,3)],4,32,[.i .i64 0,.i .i64 0,.i .i64 0,.b false]⟩:=by kernel_rfl
theorem tab55:tab 55=⟨.slice 54,1,24,[.nil]⟩:=by kernel_rfl
theorem tab56:tab 56=⟨.map 3 48,1,8,[.o (.map none)]⟩:=by kernel_rfl
theorem tab58:tab 58=⟨.struct [(46,0),(55,1),(56,2),(3,3)],4,64,[.nil,.nil,.o (.map none),.i .i64 0]⟩:=by kernel_rfl
theorem tab59:tab 59=⟨.float,1,8,[.f 0]⟩:=by kernel_rfl
theorem tab60:tab 60=⟨.slice 5,1,24,[.nil]⟩:=by kernel_rfl
theorem tab62:tab 62=⟨.struct [(3,0),(3,1),(59,2),(60,3)],4,48,[.i .i64 0,.i .i64 0,.f 0,.nil]⟩:=by kernel_rfl
theorem tab63:tab 63=⟨.slice 9,1,24,[.nil]⟩:=by kernel_rfl
theorem tab65:tab 65=⟨.struct [(30,0),(62,1),(60,5),(63,6)],7,104,[.i .i64 0,.i .i64 0,.i .i64 0,.f 0,.nil,.nil,.nil]⟩:=by kernel_rfl
theorem tab68:tab 68=⟨.struct [(3,0),(9,1),(9,2),(3,3),(59,4),(3,5),(3,6),(60,7)],8,96,[.i .i64 0,.s [],.s [],.i .i64 0,.f 0,.i .i64 0,.i .i64 0,.nil]⟩:=by kernel_rfl
theorem tab73:tab 73=⟨.struct [(3,0),(3,1),(3,2),(59,3),(60,4)],5,56,[.i .i64 0,.i .i64 0,.i .i64 0,.f 0,.nil]⟩:=by kernel_rfl
theorem tab75:tab 75=⟨.struct [(3,0),(73,1)],6,64,[.i .i64 0,.i .i64 0,.i .i64 0,.i .i64 0,.f 0,.nil]⟩:=by kernel_rfl
theorem tab82:tab 82=⟨.struct [(3,0),(3,1),(3,2),(73,3)],8,80,[.i .i64 0,.i .i64 0,.i .i64 0,.i .i64 0,.i .i64 0,.i .i64 0,.f 0,.nil]⟩:=by kernel_rfl
theorem tab84:tab 84=⟨.struct [(9,0),(62,1)],5,64,[.s [],.i .i64 0,.i .i64 0,.f 0,.nil]⟩:=by kernel_rfl
theorem tab100:tab 100=⟨.struct [(9,0),(3,1),(62,2),(62,6)],10,120,[.s [],.i .i64 0,.i .i64 0,.i .i64 0,.f 0,.nil,.i .i64 0,.i .i64 0,.f 0,.nil]⟩:=by kernel_rfl
theorem tab108:tab 108=⟨.struct [(9,0),(3,1)],2,24,[.s [],.i .i64 0]⟩:=by kernel_rfl
theorem tab109:tab 109=⟨.slice 114,1,24,[.nil]⟩:=by kernel_rfl
theorem tab114:tab 114=⟨.struct [(9,0),(9,1)],2,32,[.s [],.s []]⟩:=by kernel_rfl
theorem tab129:tab 129=⟨.func,1,8,[.o .nilFunc]⟩:=by kernel_rfl
theorem tab131:tab 131=⟨.struct [(27,0),(27,1)],2,48,[.nil,.nil]⟩:=by kernel_rfl
theorem tab135:tab 135=⟨.struct [(9,0),(3,1),(4,2),(62,3)],7,80,[.s [],.i .i64 0,.b false,.i .i64 0,.i .i64 0,.f 0,.nil]⟩:=by kernel_rfl
theorem tab138:tab 138=⟨.func,1,8,[.o .nilFunc]⟩:=by kernel_rfl
theorem tab148:tab 148=⟨.int .u64,1,8,[.i .u64 0]⟩:=by kernel_rfl
theorem tab149:tab 149=⟨.array 12 59,12,96,[.f 0,.f 0,.f 0,.f 0,.f 0,.f 0,.f 0,.f 0,.f 0,.f 0,.f 0,.f 0]⟩:=by kernel_rfl
theorem tab154:tab 154=⟨.map 9 4,1,8,[.o (.map none)]⟩:=by kernel_rfl
theorem tab158:tab 158=⟨.func,1,8,[.o .nilFunc]⟩:=by kernel_rfl
theorem tab161:tab 161=⟨.func,1,8,[.o .nilFunc]⟩:=by kernel_rfl
theorem tab162:tab 162=⟨.slice 27,1,24,[.nil]⟩:=by kernel_rfl
theorem tab167:tab 167=⟨.slice 3,1,24,[.nil]⟩:=by kernel_rfl
theorem tab170:tab 170=⟨.slice 4,1,24,[.nil]⟩:=by kernel_rfl
theorem tab174:tab 174=⟨.func,1,8,[.o .nilFunc]⟩:=by kernel_rfl
theorem tab183:tab 183=⟨.int .u64,1,8,[.i .u64 0]⟩:=by kernel_rfl
theorem tab187:tab 187=⟨.struct [(27,0),(9,1),(4,2),(62,3)],7,96,[.nil,.s [],.b false,.i .i64 0,.i .i64 0,.f 0,.nil]⟩:=by kernel_rfl
theorem tab191:tab 191=⟨.array 6 9,6,96,[.s [],.s [],.s [],.s [],.s [],.s []]⟩:=by kernel_rfl
theorem tab196:tab 196=⟨.slice 48,1,24,[.nil]⟩:=by kernel_rfl
theorem tab201:tab 201=⟨.func,1,8,[.o .nilFunc]⟩:=by kernel_rfl
theorem tab211:tab 211=⟨.map 3 4,1,8,[.o (.map none)]⟩:=by kernel_rfl
theorem tab215:tab 215=⟨.func,1,8,[.o .nilFunc]⟩:=by kernel_rfl
theorem tab217:tab 217=⟨.func,1,8,[.o .nilFunc]⟩:=by kernel_rfl
theorem tab219:tab 219=⟨.int .i64,1,8,[.i .i64 0]⟩:=by kernel_rfl
theorem tab230:tab 230=⟨.ptr 232,1,8,[.o (.pointer none)]⟩:=by kernel_rfl
theorem tab232:tab 232=⟨.struct [(27,0),(9,1),(63,2),(3,3)],4,72,[.nil,.s [],.nil,.i .i64 0]⟩:=by kernel_rfl
theorem tab241:tab 241=⟨.ptr 243,1,8,[.o (.pointer none)]⟩:=by kernel_rfl
theorem tab243:tab 243=⟨.struct [(60,0)],1,24,[.nil]⟩:=by kernel_rfl
theorem tab259:tab 259=⟨.func,1,8,[.o .nilFunc]⟩:=by kernel_rfl
theorem tab260:tab 260=⟨.slice 35,1,24,[.nil]⟩:=by kernel_rfl
theorem tab263:tab 263=⟨.func,1,8,[.o .nilFunc]⟩:=by kernel_rfl
theorem tab269:tab 269=⟨.int .u64,1,8,[.i .u64 0]⟩:=by kernel_rfl
theorem tab273:tab 273=⟨.ptr 3,1,8,[.o (.pointer none)]⟩:=by kernel_rfl
theorem tab309:tab 309=⟨.slice 60,1,24,[.nil]⟩:=by kernel_rfl
theorem tab325:tab 325=⟨.slice 63,1,24,[.nil]⟩:=by kernel_rfl
theorem aN:Tryz.prog.follows .mixedOrders=true:=by kernel_rfl
theorem eT {f:FuncId} {fn:Func} {c:Code} {args:List DV} {h:aD} {R:DV->aD->Prop} (hf:Tryz.prog.funcs[f]?=some fn)
  (hs:∀X0:Ctx,X0.h=h->vc Tryz.prog tab X0 c ⟨fn.ntmps,jA 0 args,h⟩ (ZK tab h.length fn.results.toList R))
  (hb:fn.body=some c:=by exact rfl) (hc:(Nat.ble args.length fn.ntmps && !(fn.name == "runtime.NumGoroutine"))=true:=by exact rfl):aA Tryz.prog f args h R:=ent aF aN hf hb hc hs
attribute [go_sem] tab1 tab2 tab3 tab4 tab5 tab6 tab7 tab8 tab9 tab10 tab11 tab12 tab13 tab14 tab20 tab22 tab23 tab24 tab27 tab30 tab32 tab35 tab46 tab48 tab52 tab54 tab55 tab56 tab58 tab59 tab60 tab62 tab63 tab65 tab68 tab73 tab75 tab82 tab84 tab100 tab108 tab109 tab114 tab129 tab131 tab135 tab138 tab148 tab149 tab154 tab158 tab161 tab162 tab167 tab170 tab174 tab183 tab187 tab191 tab196 tab201 tab211 tab215 tab217 tab219 tab230 tab232 tab241 tab243 tab259 tab260 tab263 tab269 tab273 tab309 tab325
end Go.Proofs.YtflcjdohmojepaaGreatDoor
end
section
section
namespace Go.Dm
open Go
theorem mapM_at{α β:Type}{f:α->Option β}:∀{l:List α} {ys:List β},l.mapM f=some ys->ys.length=l.length/\∀(i:Nat) (x:α),l[i]?=some x->∃y,ys[i]?=some y/\f x=some y
 | [],ys,h=>by
  simp only[List.mapM_nil,Option.pure_def,Option.some.injEq] at h;subst h;exact⟨rfl,by simp⟩
 | a::l,ys,h=>by
  simp only[List.mapM_cons,Option.bind_eq_bind,Option.bind_eq_some_iff,Option.pure_def,Option.some.injEq] at h;obtain⟨y,hy,zs,hz,rfl⟩:=h;obtain⟨h1,h2⟩:=mapM_at hz;refine⟨by simp[h1],λi x hx=>?_⟩
  cases i with
  | zero=>simp only[List.getElem?_cons_zero,Option.some.injEq] at hx;subst hx;exact⟨y,rfl,hy⟩
  | succ i=>simp only[List.getElem?_cons_succ] at hx ⊢;exact h2 i x hx
theorem sL{α:Type}:∀(n:Nat) {p:Nat->α->Prop},(∀i,i<n->∃x,p i x)->∃l:List α,l.length=n/\∀(i:Nat) (x:α),l[i]?=some x->p i x
 | 0,_,_=>⟨[],rfl,by simp⟩
 | n+1,p,h=>by
  obtain⟨x,hx⟩:=h 0 (by omega);obtain⟨l,h1,h2⟩:=sL n (p:=λi=>p (i+1)) λi hi=>h (i+1) (by omega);refine⟨x::l,by simp[h1],λi y hy=>?_⟩
  cases i with
  | zero=>simp only[List.getElem?_cons_zero,Option.some.injEq] at hy;subst hy;exact hx
  | succ i=>simp only[List.getElem?_cons_succ] at hy;exact h2 i y hy
def NX(T:Tab):Nat->List (Nat × Nat)->Option Nat
 | off,[]=>some off
 | off,f::r=>if f.2=off then NX T (off+(T f.1).size) r else none
def uI(T:Tab):Nat->Nat->Bool
 | 0,_=>false
 | g+1,t =>
  match (T t).k with
  | .bool=>true
  | .int _=>true
  | .float=>true
  | .str=>true
  | .slice e=>uI T g e && decide ((T e).size≠0)
  | .struct fs=>(NX T 0 fs==some (T t).size) && fs.all λf=>uI T g f.1
  | _=>false
def PVs(p:Nat->List PV->Prop):List (Nat × Nat)->List (List PV)->Prop
 | [],[]=>True
 | f::fs,x::xs=>p f.1 x/\PVs p fs xs
 | _,_=>False
def rR(T:Tab):Nat->Nat->List PV->Prop
 | 0,_,_=>False
 | g+1,t,xs =>
  match (T t).k with
  | .bool=>∃b,xs=[.b b]
  | .int k=>∃n,xs=[.i k n]/\(Lit.int k n).wf=true
  | .float=>∃n,xs=[.f n]/\n<18446744073709551616
  | .str=>∃l,xs=[.s l]/\l.length<=9223372036854775807
  | .slice e=>∃es,xs=[.sl (T e).size es]/\(∀x∈es,rR T g e x)/\es.length<=9223372036854775807
  | .struct fs=>∃parts:List (List PV),xs=parts.flatten/\PVs (rR T g) fs parts
  | _=>False
section
variable {P:Program}{T:Tab}{H:Type}{enc:TypeId × Value->H}{w:World}{sp:Nat->Bool}{held:Bool}
variable {t g:Nat}{fs:List (Nat × Nat)}{p:Nat->List PV->Prop}{ps:List (List PV)}
theorem vV(hT:bM P T)(h:(T t).k≠.no):P.cellsOf t=(T t).size:=by
 obtain⟨_,i,z,h1,h2,_⟩:=cC hT h;simp[Program.cellsOf,h1,h2]
theorem rE(h:uI T g t=true):(T t).k≠.no:=by
 cases g with
 | zero=>simp[uI] at h
 | succ g=>intro e;simp[uI,e] at h
theorem zH8{a:Addr}{n:Nat}{cs:List Value}(h:w.cells? 0 a n=some cs):cs.length=n/\∀(i:Nat) (v:Value),cs[i]?=some v->w.cell? (a.add i)=some v:=by
 simp only[World.cells?,Nat.zero_le,if_true] at h;obtain⟨h1,h2⟩:=mapM_at h;refine⟨by simpa using h1,λi v hv=>?_⟩
 have hi:i<n:=by have:=aK hv;rw[h1] at this;simpa using this
 obtain⟨y,h3,h4⟩:=h2 i i (by simp[hi]);rw[hv] at h3;cases h3;exact h4
theorem DW(hT:bM P T):∀(g:Nat) {t fuel:Nat} {cs:List Value} {d:DataW H} {ps:List MemPlace},uI T g t=true->DataW.trod enc P w 0 sp held fuel t cs=some (d,ps) ->
  ∃xs,rR T g t xs/\bQ w (λb=>b<w.heap.size) xs cs
 | 0,_,_,_,_,_,hg,_=>by simp[uI] at hg
 | g+1,t,0,_,_,_,_,h=>by simp[DataW.trod] at h
 | g+1,t,fuel+1,cs,d,ps,hg,h=>by
  have hkn:=rE hg;cases hk:(T t).k with
  | no=>exact absurd hk hkn
  | bool =>
   simp only[DataW.trod,zW hT hk] at h;simp only[rR,hk]
   match cs,h with
   | [.bool b],_=>exact⟨_,⟨b,rfl⟩,by simp[bQ,cZ]⟩
  | int k =>
   simp only[DataW.trod,qM hT hk] at h;simp only[rR,hk]
   match cs,h with
   | [.int k' n],h =>
    simp only at h;split at h
    .rename_i hw;exact⟨_,⟨n,rfl,hw.2⟩,by simp[bQ,cZ,hw.1]⟩
    .cases h
  | float =>
   have hu:P.underlying t=some (.float .f64):=by
    have:=(cC hT hkn).1;rw[hk] at this;revert this;cases P.underlying t with
    | none=>simp[iR]
    | some d=>cases d<;>simp[iR]
   simp only[DataW.trod,hu] at h;simp only[rR,hk]
   match cs,h with
   | [.float k' n],h =>
    simp only at h;split at h
    .rename_i hw;exact⟨_,⟨n,rfl,by simpa[Lit.wf] using hw.2⟩,by simp[bQ,cZ,hw.1]⟩
    .cases h
  | str =>
   simp only[DataW.trod,mF hT hk] at h;simp only[rR,hk]
   match cs,h with
   | [.string s],h =>
    simp only at h;split at h
    .rename_i hw;exact⟨_,⟨s.data.toList,rfl,by unfold maxLen at hw;simpa using hw⟩,by simp[bQ,cZ]⟩
    .cases h
  | slice e =>
   simp only[uI,hk,Bool.and_eq_true,decide_eq_true_eq] at hg;have hke:=rE hg.1;have hce:=vV hT hke;simp only[DataW.trod,bB hT hk] at h;simp only[rR,hk]
   match cs,h with
   | [.slice none 0 0],_=>exact⟨_,⟨[],rfl,by simp,by simp⟩,⟨⟨none,0,rfl,Nat.le_refl _,.inl rfl⟩,True.intro⟩⟩
   | [.slice (some a) len cap],h =>
    simp only at h;split at h
    .rename_i hb;obtain⟨_,hlc,hcm⟩:=hb;simp only[Option.bind_eq_some_iff,Option.map_eq_some_iff] at h;obtain⟨elems,he,_⟩:=h;obtain⟨h1,h2⟩:=mapM_at he;simp only[List.length_range] at h1;have h3:∀i,i<len->∃xs,rR T g e xs/\xs.length=(T e).size/\∃cs,bQ w (λb=>b<w.heap.size) xs cs/\∀(j:Nat) (v:Value),cs[j]?=some v->w.cell? ((a.add (i*(T e).size)).add j)=some v:=by
      intro i hi;obtain⟨y,_,hy⟩:=h2 i i (by simp[hi]);simp only[Option.bind_eq_some_iff] at hy;obtain⟨ci,hc,ht⟩:=hy;simp only[hce] at hc;obtain⟨hl,hcell⟩:=zH8 hc;obtain⟨xs,hx,hr⟩:=DW hT g hg.1 (d:=y.1) (ps:=y.2) ht;exact⟨xs,hx,by rw[hr.length,hl],ci,hr,hcell⟩
     obtain⟨es,he1,he2⟩:=sL len h3;refine⟨_,⟨es,rfl,λx hx=>?_,by unfold maxLen at hcm;omega⟩,?_⟩
     .obtain⟨i,hi⟩:=List.mem_iff_getElem?.1 hx;exact(he2 i x hi).1
     .simp only[bQ,cZ];refine⟨⟨some a,cap,by rw[he1],by omega,?_⟩,trivial⟩
      rcases Nat.eq_zero_or_pos len with hz|hz
      .left;exact List.eq_nil_of_length_eq_zero (by omega)
      .right;have h0:es[0]?=some es[0]:=List.getElem?_eq_getElem (by omega);obtain⟨_,hx2,c0,hx3,hx4⟩:=he2 0 _ h0;have hc0:0<c0.length:=by rw[<- hx3.length,hx2];omega
       have hcell:=hx4 0 _ (List.getElem?_eq_getElem hc0);have hadd:(a.add (0*(T e).size)).add 0=a:=by simp[Addr.add]
       rw [hadd] at hcell;obtain⟨bl,off,spot⟩:=a;have hsp:spot=none:=by
        cases spot with
        | none=>rfl
        | some q =>
         simp only[World.cell?] at hcell;split at hcell<;>simp_all
       subst hsp;have hbl:bl<w.heap.size:=by
        rcases Nat.lt_or_ge bl w.heap.size with hlt|hge
        .exact hlt
        .simp only[World.cell?,Array.getElem?_eq_none hge] at hcell;cases hcell
       refine⟨bl,off,rfl,hbl,fP.mk λj x hj=>?_⟩;obtain⟨_,y2,cj,y3,y4⟩:=he2 j x hj;refine⟨y2,gT.mk λq z hq=>?_⟩;obtain⟨v,hv,hrv⟩:=y3.at_ hq;have:=y4 q v hv;rw[iE,iE] at this;exact⟨v,this,hrv⟩
    .cases h
  | struct fs =>
   simp only[uI,hk,Bool.and_eq_true,List.all_eq_true,beq_iff_eq] at hg;obtain⟨fields,hu,hfs⟩:=nI hT hk;simp only[DataW.trod,hu,vV hT hkn] at h;simp only[rR,hk];split at h
   .rename_i hlen;simp only[Option.map_eq_some_iff] at h;obtain⟨xs,hx,_⟩:=h;obtain⟨h1,h2⟩:=mapM_at hx;have key:∀(fl:List Field) (off:Nat),NX T off (fl.map λf=>(f.type,f.offset))=some (T t).size->(∀f∈fl,f∈fields.toList) ->
      ∃parts,PVs (rR T g) (fl.map λf=>(f.type,f.offset)) parts/\bQ w (λb=>b<w.heap.size) parts.flatten (cs.drop off):=by
     intro fl
     induction fl with
     | nil =>
      intro off hc _;simp only[List.map_nil,NX,Option.some.injEq] at hc;refine⟨[],trivial,?_⟩;rw[List.drop_of_length_le (by omega)];exact trivial
     | cons f fl ih =>
      intro off hc hin;simp only[List.map_cons,NX] at hc;split at hc
      .rename_i ho;obtain⟨parts,hp,hr⟩:=ih _ hc λy hy=>hin y (List.mem_cons_of_mem _ hy);have hf:=hin f List.mem_cons_self;have hgf:uI T g f.type=true:=hg.2 (f.type,f.offset) (by rw[<- hfs];exact List.mem_map.2 ⟨f,hf,rfl⟩);obtain⟨i,hi⟩:=List.mem_iff_getElem?.1 hf;obtain⟨y,_,hy⟩:=h2 i f hi;simp only[vV hT (rE hgf)] at hy;obtain⟨x,hx1,hx2⟩:=DW hT g hgf (d:=y.1) (ps:=y.2) hy;refine⟨x::parts,⟨hx1,hp⟩,?_⟩;have ec:cs.drop off=((cs.drop off).take (T f.type).size)++cs.drop (off+(T f.type).size):=by
        rw[<- List.drop_drop,List.take_append_drop]
       rw[List.flatten_cons,ec];rw[show f.offset=off from ho] at hx2
       exact hx2.append hr
      .cases hc
    obtain⟨parts,hp,hr⟩:=key fields.toList 0 (by rw[hfs];exact hg.1) λ_ h=>h;rw[hfs] at hp;exact⟨_,⟨parts,rfl,hp⟩,by simpa using hr⟩
   .cases h
  | _=>simp[uI,hk] at hg
theorem tG{xs:List PV}(hk:(T t).k=.struct fs)(h:rR T (g+1) t xs):∃parts:List (List PV),xs=parts.flatten/\PVs (rR T g) fs parts:=by
 simp only[rR,hk] at h;exact h
section
variable {P:Program}{T:Tab}{H:Type}{enc:TypeId × Value->H}{w:World}{sp:Nat->Bool}{held:Bool}
end
theorem hD{f:Nat × Nat}(h:PVs p (f::fs) ps):∃x r,ps=x::r/\p f.1 x/\PVs p fs r:=by
 cases ps with
 | nil=>exact h.elim
 | cons x r=>exact⟨x,r,rfl,h.1,h.2⟩
theorem YH(h:PVs p [] ps):ps=[]:=by
 cases ps with
 | nil=>rfl
 | cons x r=>exact h.elim
end
end Go.Dm
end
section
namespace Go.Dm
open Go Go.RowKit Go.ChangeShapes Go.WideShapes
def fA(W:World):Ctx:=⟨W,λb=>b<W.heap.size,λ_=>none,[]⟩
theorem QX(W:World):HInv (fA W) :=
 ⟨λ_ h=>h,λid db h=>by simp[fA] at h,λid db g h=>by simp[fA] at h,λid db id' db' g g' h=>by simp[fA] at h⟩
section
variable {P:Program}{T:Tab}{H:Type}{enc:TypeId × Value->H}
variable {W W':World}{fn:Func}{args:Array Value}
def zP4(ti:TI)(xs:List PV):DV:=if ti.k.agg then .agg (xs.map .p) else .c (.p (xs.headD .nil))
theorem ZU(hT:bM P T){base:Nat}{sp:Nat->Bool}{held:Bool}(g:Nat){t:Nat}{v:Value}{d:DataW H}{ps:List MemPlace}(hg:uI T g t=true)(hv:Value.okWide P W .any base t v)
 (h:DataW.Trod enc P W 0 sp held t v d ps):∃xs,rR T g t xs/\bD (fA W) (zP4 (T t) xs) v:=by
 obtain⟨fuel,hf⟩:=h;obtain⟨xs,hx,hr⟩:=DW hT g hg hf;refine⟨xs,hx,?_⟩;have hkn:=rE hg;cases g with
 | zero=>simp[uI] at hg
 | succ g =>
  have scalar:(∃x,xs=[x])->v.cells = #[v]->(T t).k.agg=false->bD (fA W) (zP4 (T t) xs) v:=by
   rintro⟨x,rfl⟩ hc ha;rw[hc] at hr;simp only[zP4,ha,Bool.false_eq_true,if_false,List.headD_cons];exact zR (X:=fA W) hr.1
  cases hk:(T t).k with
  | no=>exact absurd hk hkn
  | bool =>
   simp only[rR,hk] at hx;obtain⟨b,rfl⟩:=hx;refine scalar ⟨_,rfl⟩ ?_ (by rw[hk];rfl);simp only[Value.okWide,zW hT hk,Cell.okWide,Cell.ok] at hv;cases v<;>first|rfl|exact hv.elim
  | int k =>
   simp only[rR,hk] at hx;obtain⟨b,rfl,_⟩:=hx;refine scalar ⟨_,rfl⟩ ?_ (by rw[hk];rfl);simp only[Value.okWide,qM hT hk,Cell.okWide,Cell.ok] at hv;cases v<;>first|rfl|exact hv.elim
  | float =>
   have hu:P.underlying t=some (.float .f64):=by
    have:=(cC hT hkn).1;rw[hk] at this;revert this;cases P.underlying t with
    | none=>simp[iR]
    | some d=>cases d<;>simp[iR]
   simp only[rR,hk] at hx;obtain⟨b,rfl,_⟩:=hx;refine scalar ⟨_,rfl⟩ ?_ (by rw[hk];rfl);simp only[Value.okWide,hu,Cell.okWide,Cell.ok] at hv;cases v<;>first|rfl|exact hv.elim
  | str =>
   simp only[rR,hk] at hx;obtain⟨b,rfl,_⟩:=hx;refine scalar ⟨_,rfl⟩ ?_ (by rw[hk];rfl);simp only[Value.okWide,mF hT hk,Cell.okWide,Cell.ok] at hv;cases v<;>first|rfl|exact hv.elim
  | slice e =>
   simp only[rR,hk] at hx;obtain⟨b,rfl,_⟩:=hx;refine scalar ⟨_,rfl⟩ ?_ (by rw[hk];rfl);simp only[Value.okWide,bB hT hk,Cell.okWide,Cell.ok] at hv;cases v<;>first|rfl|exact hv.elim
  | struct fs =>
   obtain⟨fields,hu,_⟩:=nI hT hk;simp only[Value.okWide,hu] at hv;obtain⟨cs,rfl,_⟩:=hv;simp only[zP4,hk,TK.agg,if_true];exact⟨cs.toList,by simp,bF.of_ps (X:=fA W) hr⟩
  | _=>simp[uI,hk] at hg
theorem zFH {f:FuncId} (hf:P.funcs[f]?=some fn) (hb:fn.body.isSome=true) (hn:(fn.name == "runtime.NumGoroutine")=false) {ds:List DV} (hc:aA P f ds [] λd h=>d=.c (.p (.b true))/\h=[])
 (hsh:W.ShapedOpen P) (hsd:zOi W) (hr:dI (fA W) ds args.toList):Calls P f args W λe W'=>e=.returned (.bool true)/\Below W.heap.size W W':=by
 have key:∀v W',Ret (fA W) (λd h=>d=.c (.p (.b true))/\h=[]) v W'->v=.bool true/\Below W.heap.size W W':=by
  rintro v W' ⟨d,X',rfl,_,hs,hd,rfl,_⟩;refine⟨hd,hs.os,hs.tape,hs.output.1,hs.size,λk hk=>hs.frame k hk λid db g h=>by simp[fA] at h⟩
 rcases hc (fA W) args.toList rfl (QX W) ⟨W,⟨hsh,hsd⟩,λb hb=>⟨hb,rfl⟩⟩ hr with⟨_,h⟩|⟨v,w',h,_⟩
 .exact h.mono λe W' ⟨v,he,hv⟩=>by
   obtain⟨rfl,h2⟩:=key v W' hv;exact⟨he,h2⟩
 ·exfalso;obtain⟨c,hc⟩:=Option.isSome_iff_exists.1 hb;have hn':¬ fn.name = "runtime.NumGoroutine" := by simpa using hn
  simp[callFunc,hf,hn',hc] at h
theorem vM(hl:laidOutB P=true){sp':Nat->Bool}(hb:Below W.heap.size W W'):∀{ts:List TypeId} {vs:List Value} {ds:List (DataW H)} {ps:List MemPlace},(∀t∈ts,P.readableRec t=true/\t<P.types.size) ->
  DataW.TrodAll enc P W 0 (λ_=>true) true ts vs ds ps->(∀p∈ps,p.block<W.heap.size)->(∀p∈ps,sp' p.block=true)->DataW.TrodAll enc P W' 0 sp' true ts vs ds ps
 | [],[],[],_,_,h,_,_=>h
 | t::ts,v::vs,d::ds,ps,hr,h,hlt,hs=>by
  obtain ⟨p,q,h1,h2,rfl⟩:=h;have ht:=hr t List.mem_cons_self;exact⟨p,q,WideElems.Trod_stays hl ht.1 ht.2 h1 (λx hx=>hb.same (hlt x (List.mem_append_left _ hx))) (λx hx=>hs x (List.mem_append_left _ hx)),
   vM hl hb (λt ht=>hr t (List.mem_cons_of_mem _ ht)) h2 (λx hx=>hlt x (List.mem_append_right _ hx)) (λx hx=>hs x (List.mem_append_right _ hx)),rfl⟩
 | [],_::_,_,_,_,h,_,_=>by cases h
 | [],[],_::_,_,_,h,_,_=>by cases h
 | _::_,[],_,_,_,h,_,_=>by cases h
 | _::_,_::_,[],_,_,h,_,_=>by cases h
theorem zJD{s:ChangeSpec}{handsOn again fresh:Bool}{ds gs:List (DataW H)}{before:List MemPlace}{tb:Nat}(hl:laidOutB P=true)(hvars:s.vars=[])
 (hW:DataW.Whole enc P fn.params.toList s.vars false W args.toList ds gs before)(hrd:∀t∈fn.params.toList,P.readableRec t=true/\t<P.types.size)(hres:fn.resultTypes = #[tb])(hbool:P.underlying tb=some .bool)
 (hfn:s.fn H (ds++gs) = { results:=[.lit (.bool true)],args:=ds })(hb:Below W.heap.size W W'):s.post enc P fn false fresh handsOn again W args (.bool true) W':=by
 have hlt:∀p∈before,p.block<W.heap.size:=λp hp=>hW.lt p hp;have hold:∀p∈before,(λb=>decide (b<W.heap.size)) p.block=true:=λp hp=>by simpa using hlt p hp
 have hW0:=hW;obtain⟨pa,pv,hA,hV,hps,hz,hn⟩:=hW0;rw[hvars] at hV;obtain⟨rfl,rfl⟩:=trodVars_none hV;rw[List.append_nil] at hps;subst hps;have hargs:∀sp:Nat->Bool,(∀p∈before,sp p.block=true)->DataW.TrodAll enc P W' 0 sp true fn.params.toList args.toList ds before:=λsp hs=>vM hl hb hrd hA hlt hs;have hr:∀(b:Nat) (sp:Nat->Bool) (hd:Bool),DataW.TrodAll enc P W' b sp hd fn.resultTypes.toList ((Value.bool true).resultList fn.resultTypes.size) [.lit (.bool true)] []:=by
  intro b sp hd;rw[hres];exact trodAll_mk1 ⟨1,by simp[DataW.trod,Value.cells,hbool]⟩
 have hok:∀(j:Nat) (t:TypeId) (r:Value),fn.resultTypes[j]?=some t->((Value.bool true).resultList fn.resultTypes.size)[j]?=some r->Value.okWide P W' .any 0 t r:=by
  rw[hres];intro j t r h1 h2;cases j with
  | zero =>
   simp only[Array.size_singleton,Value.resultList] at h2;simp at h1 h2;subst h1;subst h2;simp[Value.okWide,hbool,Cell.okWide,Cell.ok]
  | succ j=>simp at h1
 refine⟨ds,[],before,[],before,[],hW,?_,?_,?_,World.keptBut_mono (λp hp=>⟨hp,.inr (by simpa using hp)⟩) (hb.frame (·∈before)),λ_=>?_⟩
 .rw[hfn];exact hr _ _ _
 .rw[hfn];exact hargs _ hold
 .rw[hvars,hfn];rfl
 .refine ⟨hok,_,[],([]++before)++[],⟨[]++before,[],trodAll_append (hargs _ (λ_ _=>rfl)) (hr _ _ _),(by rw[hvars];exact rfl),rfl,?_,?_⟩,?_⟩
  .intro b off hp;have hin:MemPlace.cell b off∈before:=by simpa using hp
   rw[hb.frozen (hlt _ hin)];exact hz b off hin
  .intro ha;cases ha
  .intro p hp _;simpa using hp
theorem SN{l:List TypeId}(h:(l.all λt=>P.readableRec t && decide (t<P.types.size))=true):∀t∈l,P.readableRec t=true/\t<P.types.size:=λt ht=>by
 have:=List.all_eq_true.1 h t ht;simpa using this
theorem ZW: ∀{es:List (List PV)},(∀x∈es,∃n,x=[.i .u8 n]/\(Lit.int .u8 n).wf=true)->∃l,es=bU l/\l.length=es.length
 | [],_=>⟨[],rfl,rfl⟩
 | x::es,h=>by
  obtain⟨n,rfl,hn⟩:=h x List.mem_cons_self;obtain⟨l,rfl,hl⟩:=ZW λy hy=>h y (List.mem_cons_of_mem _ hy);have hx:0<=n/\n<=255:=by simpa[Lit.wf,IntKind.min,IntKind.max,IntKind.signed,IntKind.bits] using hn
  exact⟨UInt8.ofNat n.toNat::l,zOq n l hx.1 hx.2,by simp[hl]⟩
end
end Go.Dm
end
end
