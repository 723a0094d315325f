/- Part 26 of roomPlays_card. No condition. -/
import Derived.Test.YtfcindonokhbeaaGreatDoorProg
import Derived.Test.YtfcindonokhbeaaGreatDoorP06
set_option linter.all false
set_option maxRecDepth 100000
set_option maxHeartbeats 0
section
namespace Go.Dm
open Go
def zpv:Value->Option PV
 | .bool x=>some (.b x)
 | .int k n=>some (.i k n)
 | .string s=>some (.s s.1.toList)
 | .float .f64 x=>some (.f x)
 | .slice none 0 0=>some .nil
 | .pointer none=>some (.o (.pointer none))
 | .map none=>some (.o (.map none))
 | .nilFunc=>some (.o .nilFunc)
 | .nilIface=>some (.o .nilIface)
 | _=>none
def zTr:Bb->Option (List PV)
 | []=>some []
 | v::l=>match zpv v,zTr l with
  | some p,some a=>some (p::a)
  | _,_=>none
def zNW{v:Value}{p:PV}(h:zpv v=some p):jM p=some v/\v.oneCell'=true:=by
 unfold zpv at h;split at h<;>first|cases h;exact⟨rfl,rfl⟩|cases h
def ZX:∀{l:Bb} {ps:List PV},zTr l=some ps->ps.map jM=l.map some/\ps.length=l.length/\∀v∈l,v.oneCell'=true
 | [],ps,h=>by cases h;exact⟨rfl,rfl,λ_ h=>by cases h⟩
 | v::l,ps,h=>by
  rw[zTr] at h;split at h
  case h_1 p f d e =>
   cases h;have a:=zNW d;have b:=ZX e;exact⟨by simp[a.1,b.1],by simp[b.2.1],λx c=>by rcases bx.1 c with rfl|c;exact a.2;exact b.2.2 x c⟩
  case h_2=>cases h
def kOf:Option TypeDesc->TK
 | some .bool=>.bool
 | some (.int k)=>.int k
 | some (.float .f64)=>.float
 | some .string=>.str
 | some (.pointer e)=>.ptr e
 | some (.slice e)=>.slice e
 | some (.array n e)=>.array n e
 | some (.map k e)=>.map k e
 | some (.struct a)=>.struct (a.toList.map λf=>(f.type,f.offset))
 | some (.func _ _ _)=>.func
 | some (.interface _)=>.iface
 | _=>.no
def zSa{d:Option TypeDesc}(h:kOf d≠.no):kV d (kOf d):=by
 unfold kOf at h ⊢;split<;>simp_all[kV]
def zRg:TI:=⟨.no,0,0,[]⟩
def noB:TK->Bool
 | .no=>true
 | _=>false
def zUh:Value->Bool
 | .agg _=>true
 | _=>false
noncomputable def zT3(P:Program)(t:Nat):TI :=
 match P.info? t with
 | none=>zRg
 | some i=>match i.zero with
  | none=>zRg
  | some z=>match zTr z.cells.toList with
   | none=>zRg
   | some a =>
    if noB (kOf (P.underlying t))=false/\i.size=a.length/\i.size≠0/\zUh z=(kOf (P.underlying t)).agg/\(zUh z=false->i.size=1/\z.oneCell'=true) then ⟨kOf (P.underlying t),i.size,i.bytes,a⟩ else zRg
theorem FQ{P:Program}{t:Nat}:zRd P t zRg:=rfl
def zQU{P:Program}{t:Nat}:zRd P t (zT3 P t):=by
 unfold zT3;split
 .exact FQ
 .rename_i i d;split
  .exact FQ
  .rename_i z e;split
   .exact FQ
   .rename_i o f;split
    .rename_i h;obtain⟨b,g,p,j,l⟩:=h;have m:=ZX f;have c:kOf (P.underlying t)≠.no:=λh=>by rw[h] at b;cases b
     have n:=zSa c;have a:((kOf (P.underlying t)).agg=true->∃cs,z=.agg cs)/\((kOf (P.underlying t)).agg=false->i.size=1/\z.oneCell'=true):=by
      rw[<- j];refine⟨λh=>?_,l⟩;cases z<;>first|exact⟨_,rfl⟩|cases h
     unfold zRd;simp only;generalize kOf (P.underlying t)=k at *;cases k
     case no=>exact absurd rfl c
     all_goals exact⟨n,i,z,d,rfl,rfl,e,m.1,g,a.1,a.2⟩
    .exact FQ
end Go.Dm
namespace Go.Proofs.YtfcindonokhbeaaGreatDoor
open Go Go.Dm
set_option maxRecDepth 100000
noncomputable def tab:Tab:=λt=>if [1,2,3,4,5,6,7,8,9,10,11,12,13,14,20,22,23,26,27,29,31,32,34,36,39,41,42,44,45,47,48,49,51,59,61,62,63,65,71,73,103,115,116,121,134,136,147,149,152,163,168,173,174,187,192,202,207,210,212,214,225,226,230,232,244,248,250,254,261,280,290,301,302,305,308,320,324,326,328,332,352].contains t then zT3 Tryz.prog t else zRg
def aC:bQ Tryz.prog tab:=λt=>by
 unfold tab;split
 .exact zQU
 .exact FQ
def y1:TI:=⟨.struct [(2,0),(3,1),(4,2),(6,3)],4,24,[.i .i64 0,.i .i64 0,.b false,.i .u8 0]⟩
def y2:TI:=⟨.int .i64,1,8,[.i .i64 0]⟩
def y3:TI:=⟨.int .u64,1,8,[.i .u64 0]⟩
def y4:TI:=⟨.struct [(9,0),(12,1)],2,24,[.s [],.i .u64 0]⟩
def y5:TI:=⟨.struct [(9,0),(3,1)],2,24,[.s [],.i .i64 0]⟩
def tab1:tab 1=⟨.func,1,8,[.o .nilFunc]⟩:=qg
def tab2:tab 2=⟨.int .i64,1,8,[.i .i64 0]⟩:=qg
def tab3:tab 3=⟨.int .i64,1,8,[.i .i64 0]⟩:=qg
def tab4:tab 4=⟨.bool,1,1,[.b false]⟩:=qg
def tab5:tab 5=⟨.int .u8,1,1,[.i .u8 0]⟩:=qg
def tab6:tab 6=⟨.int .u8,1,1,[.i .u8 0]⟩:=qg
def tab7:tab 7=⟨.struct [(2,0),(3,1),(4,2),(6,3)],4,24,[.i .i64 0,.i .i64 0,.b false,.i .u8 0]⟩:=qg
def tab8:tab 8=⟨.struct [(2,0),(3,1),(4,2),(6,3)],4,24,[.i .i64 0,.i .i64 0,.b false,.i .u8 0]⟩:=qg
def tab9:tab 9=⟨.str,1,16,[.s []]⟩:=qg
def tab10:tab 10=⟨.str,1,16,[.s []]⟩:=qg
def tab11:tab 11=⟨.str,1,16,[.s []]⟩:=qg
def tab12:tab 12=⟨.int .u64,1,8,[.i .u64 0]⟩:=qg
def tab13:tab 13=⟨.struct [(9,0),(12,1)],2,24,[.s [],.i .u64 0]⟩:=qg
def tab14:tab 14=⟨.struct [(9,0),(12,1)],2,24,[.s [],.i .u64 0]⟩:=qg
def tab20:tab 20=⟨.iface,1,16,[.o .nilIface]⟩:=qg
def tab22:tab 22=⟨.slice 41,1,24,[.nil]⟩:=qg
def tab23:tab 23=⟨.ptr 65,1,8,[.o (.pointer none)]⟩:=qg
def tab26:tab 26=⟨.slice 73,1,24,[.nil]⟩:=qg
def tab27:tab 27=⟨.slice 59,1,24,[.nil]⟩:=qg
def tab29:tab 29=⟨.struct [(26,0),(27,1),(3,2)],3,56,[.nil,.nil,.i .i64 0]⟩:=qg
def tab31:tab 31=⟨.float,1,8,[.f 0]⟩:=qg
def tab32:tab 32=⟨.slice 5,1,24,[.nil]⟩:=qg
def tab34:tab 34=⟨.struct [(3,0),(9,1),(9,2),(3,3),(31,4),(3,5),(3,6),(32,7)],8,96,[.i .i64 0,.s [],.s [],.i .i64 0,.f 0,.i .i64 0,.i .i64 0,.nil]⟩:=qg
def tab36:tab 36=⟨.struct [(3,0),(9,1),(9,2),(9,3),(34,4),(3,12),(32,13)],14,184,[.i .i64 0,.s [],.s [],.s [],.i .i64 0,.s [],.s [],.i .i64 0,.f 0,.i .i64 0,.i .i64 0,.nil,.i .i64 0,.nil]⟩:=qg
def tab39:tab 39=⟨.struct [(3,0),(3,1),(3,2),(3,3),(3,4),(3,5),(3,6),(3,7),(31,8),(32,9),(9,10)],11,112,[.i .i64 0,.i .i64 0,.i .i64 0,.i .i64 0,.i .i64 0,.i .i64 0,.i .i64 0,.i .i64 0,.f 0,.nil,.s []]⟩:=qg
def tab41:tab 41=⟨.struct [(3,0),(3,1),(3,2),(3,3),(3,4),(39,5),(32,16)],17,176,[.i .i64 0,.i .i64 0,.i .i64 0,.i .i64 0,.i .i64 0,.i .i64 0,.i .i64 0,.i .i64 0,.i .i64 0,.i .i64 0,.i .i64 0,.i .i64 0,.i .i64 0,.f 0,.nil,.s [],.nil]⟩:=qg
def tab42:tab 42=⟨.int .i64,1,8,[.i .i64 0]⟩:=qg
def tab44:tab 44=⟨.struct [(3,0),(3,1),(31,2),(32,3)],4,48,[.i .i64 0,.i .i64 0,.f 0,.nil]⟩:=qg
def tab45:tab 45=⟨.slice 9,1,24,[.nil]⟩:=qg
def tab47:tab 47=⟨.struct [(42,0),(44,1),(32,5),(45,6)],7,104,[.i .i64 0,.i .i64 0,.i .i64 0,.f 0,.nil,.nil,.nil]⟩:=qg
def tab48:tab 48=⟨.slice 134,1,24,[.nil]⟩:=qg
def tab49:tab 49=⟨.slice 136,1,24,[.nil]⟩:=qg
def tab51:tab 51=⟨.struct [(42,0),(47,1),(48,8),(49,9)],10,160,[.i .i64 0,.i .i64 0,.i .i64 0,.i .i64 0,.f 0,.nil,.nil,.nil,.nil,.nil]⟩:=qg
def tab59:tab 59=⟨.struct [(9,0),(3,1)],2,24,[.s [],.i .i64 0]⟩:=qg
def tab61:tab 61=⟨.struct [(3,0),(3,1),(3,2),(4,3)],4,32,[.i .i64 0,.i .i64 0,.i .i64 0,.b false]⟩:=qg
def tab62:tab 62=⟨.slice 61,1,24,[.nil]⟩:=qg
def tab63:tab 63=⟨.map 3 103,1,8,[.o (.map none)]⟩:=qg
def tab65:tab 65=⟨.struct [(27,0),(62,1),(63,2),(3,3)],4,64,[.nil,.nil,.o (.map none),.i .i64 0]⟩:=qg
def tab71:tab 71=⟨.slice 147,1,24,[.nil]⟩:=qg
def tab73:tab 73=⟨.struct [(61,0),(71,4)],5,56,[.i .i64 0,.i .i64 0,.i .i64 0,.b false,.nil]⟩:=qg
def tab103:tab 103=⟨.slice 149,1,24,[.nil]⟩:=qg
def tab115:tab 115=⟨.array 7 9,7,112,[.s [],.s [],.s [],.s [],.s [],.s [],.s []]⟩:=qg
def tab116:tab 116=⟨.array 24 3,24,192,[.i .i64 0,.i .i64 0,.i .i64 0,.i .i64 0,.i .i64 0,.i .i64 0,.i .i64 0,.i .i64 0,.i .i64 0,.i .i64 0,.i .i64 0,.i .i64 0,.i .i64 0,.i .i64 0,.i .i64 0,.i .i64 0,.i .i64 0,.i .i64 0,.i .i64 0,.i .i64 0,.i .i64 0,.i .i64 0,.i .i64 0,.i .i64 0]⟩:=qg
def tab121:tab 121=⟨.struct [(3,0),(3,1),(3,2),(31,3),(32,4)],5,56,[.i .i64 0,.i .i64 0,.i .i64 0,.f 0,.nil]⟩:=qg
def tab134:tab 134=⟨.struct [(9,0),(3,1),(44,2),(44,6)],10,120,[.s [],.i .i64 0,.i .i64 0,.i .i64 0,.f 0,.nil,.i .i64 0,.i .i64 0,.f 0,.nil]⟩:=qg
def tab136:tab 136=⟨.struct [(9,0),(3,1)],2,24,[.s [],.i .i64 0]⟩:=qg
def tab147:tab 147=⟨.struct [(9,0),(44,1)],5,64,[.s [],.i .i64 0,.i .i64 0,.f 0,.nil]⟩:=qg
def tab149:tab 149=⟨.struct [(9,0),(3,1),(4,2),(44,3)],7,80,[.s [],.i .i64 0,.b false,.i .i64 0,.i .i64 0,.f 0,.nil]⟩:=qg
def tab152:tab 152=⟨.slice 3,1,24,[.nil]⟩:=qg
def tab163:tab 163=⟨.struct [(71,0),(9,1),(4,2),(44,3)],7,96,[.nil,.s [],.b false,.i .i64 0,.i .i64 0,.f 0,.nil]⟩:=qg
def tab168:tab 168=⟨.func,1,8,[.o .nilFunc]⟩:=qg
def tab173:tab 173=⟨.int .u64,1,8,[.i .u64 0]⟩:=qg
def tab174:tab 174=⟨.array 12 31,12,96,[.f 0,.f 0,.f 0,.f 0,.f 0,.f 0,.f 0,.f 0,.f 0,.f 0,.f 0,.f 0]⟩:=qg
def tab187:tab 187=⟨.slice 192,1,24,[.nil]⟩:=qg
def tab192:tab 192=⟨.struct [(9,0),(9,1)],2,32,[.s [],.s []]⟩:=qg
def tab202:tab 202=⟨.map 9 4,1,8,[.o (.map none)]⟩:=qg
def tab207:tab 207=⟨.func,1,8,[.o .nilFunc]⟩:=qg
def tab210:tab 210=⟨.struct [(71,0),(71,1)],2,48,[.nil,.nil]⟩:=qg
def tab212:tab 212=⟨.func,1,8,[.o .nilFunc]⟩:=qg
def tab214:tab 214=⟨.func,1,8,[.o .nilFunc]⟩:=qg
def tab225:tab 225=⟨.func,1,8,[.o .nilFunc]⟩:=qg
def tab226:tab 226=⟨.slice 103,1,24,[.nil]⟩:=qg
def tab230:tab 230=⟨.ptr 232,1,8,[.o (.pointer none)]⟩:=qg
def tab232:tab 232=⟨.struct [(71,0),(9,1),(45,2),(3,3)],4,72,[.nil,.s [],.nil,.i .i64 0]⟩:=qg
def tab244:tab 244=⟨.array 6 9,6,96,[.s [],.s [],.s [],.s [],.s [],.s []]⟩:=qg
def tab248:tab 248=⟨.slice 71,1,24,[.nil]⟩:=qg
def tab250:tab 250=⟨.slice 4,1,24,[.nil]⟩:=qg
def tab254:tab 254=⟨.int .u64,1,8,[.i .u64 0]⟩:=qg
def tab261:tab 261=⟨.map 3 4,1,8,[.o (.map none)]⟩:=qg
def tab280:tab 280=⟨.int .i64,1,8,[.i .i64 0]⟩:=qg
def tab290:tab 290=⟨.func,1,8,[.o .nilFunc]⟩:=qg
def tab301:tab 301=⟨.func,1,8,[.o .nilFunc]⟩:=qg
def tab302:tab 302=⟨.slice 49,1,24,[.nil]⟩:=qg
def tab305:tab 305=⟨.func,1,8,[.o .nilFunc]⟩:=qg
def tab308:tab 308=⟨.func,1,8,[.o .nilFunc]⟩:=qg
def tab320:tab 320=⟨.slice 32,1,24,[.nil]⟩:=qg
def tab324:tab 324=⟨.ptr 326,1,8,[.o (.pointer none)]⟩:=qg
def tab326:tab 326=⟨.struct [(32,0)],1,24,[.nil]⟩:=qg
def tab328:tab 328=⟨.int .u64,1,8,[.i .u64 0]⟩:=qg
def tab332:tab 332=⟨.ptr 3,1,8,[.o (.pointer none)]⟩:=qg
def tab352:tab 352=⟨.slice 45,1,24,[.nil]⟩:=qg
def aI:Tryz.prog.follows .mixedOrders=true:=qg
def eT {f:FuncId} {a:Func} {c:Code} {args:Bi} {h:aF} {R:Bd} (b:Tryz.prog.funcs[f]?=some a)
  (d:∀X0:Ctx,X0.h=h->vc Tryz.prog tab X0 c ⟨a.ntmps,mV 0 args,h⟩ (zBG tab h.length a.results.toList R))
  (e:a.body=some c:=by exact rfl) (g:(Nat.ble args.length a.ntmps && !(a.name == "runtime.NumGoroutine"))=true:=by exact rfl):aA Tryz.prog f args h R:=ent aC aI b e g d
def aa {f:FuncId} {a:Func} {c:Code} {args:Bi} {h:aF} {R:Bd} (b:Tryz.prog.funcs[f]?=some a) {B:Ctx->Prop}(d:∀X0:Ctx,X0.h=h->B X0)(g:a.body=some c:=by exact rfl) (i:(Nat.ble args.length a.ntmps && !(a.name == "runtime.NumGoroutine"))=true:=by exact rfl)
 (e:∀X0:Ctx,(vc Tryz.prog tab X0 c ⟨a.ntmps,mV 0 args,h⟩ (zBG tab h.length a.results.toList R))=B X0:=by (intro X0;simp only[go_sem];rfl)):aA Tryz.prog f args h R:=eT b (λX0 j=>(e X0).mpr (d X0 j)) g i
abbrev ag(n:FuncId)(a:Bi)(r:DV):Prop:=aA Tryz.prog n a [] λd h=>d=r/\h=[]
section
open Go.Proofs.Tryz
attribute [go_sem] f3 f5 f7 f8 f9 f11 f13 f14 f16 f17 f18 f19 f20 f21 f22 f23 f24 f25 f26 f27 f28 f29 f31 f33 f34 f39 f40 f41 f43 f44 f45 f46 f47 f50 f51 f52 f53 f54 f55 f57 f58 f59 f60 f61 f62 f63 f64 f65 f66 f67 f68 f69 f70 f71 f72 f73 f74 f76 f77 f78 f79 f81 f82 f83 f85 f89 f91 f94 f95 f96 f97 f98 f99 f100 f101 f102 f103 f104 f105 f106 f107 f108 f109 f111 f112 f113 f114 f115 f116 f118 f119 f120 f121 f122 f123 f124 f125 f126 f127 f128 f129 f130 f131 f132 f133 f134 f137 f138 f139 f140 f141 f143 f145 f148 f149 f150 f152 f153 f154 f157 f158 f159 f160 f161 f162 f163 f165 f168 f169 f170 f171 f172 f173 f174 f175 f176 f177 f178 f179 f180 f181 f182 f183 f184 f185 f186 f187 f189 f190 f191 f192 f193 f194 f195 f196 f197 f198 f199 f200 f201 f205 f206 f209 f210 f211 f212 f213 f216 f217 f219 f220 f223 f224 f227 f230 f231 f232 f233 f234 f236 f237 f238 f239 f240 f242 f243 f244 f245 f246 f247 f248 f249 f250 f262 f263 f264 f274 f275 f276 f277 f279 f280 f281 f282 f285 f286 f287 f289 f290 f301 f305 f306 f308 f310 f311 f314 f315 f316 f318 f324 f328 f329 f330 f332 f333 f334 f344 f348 f349 f350 f351 f358 f359 f375
end
attribute [go_sem] tab1 tab2 tab3 tab4 tab5 tab6 tab7 tab8 tab9 tab10 tab11 tab12 tab13 tab14 tab20 tab22 tab23 tab26 tab27 tab29 tab31 tab32 tab34 tab36 tab39 tab41 tab42 tab44 tab45 tab47 tab48 tab49 tab51 tab59 tab61 tab62 tab63 tab65 tab71 tab73 tab103 tab115 tab116 tab121 tab134 tab136 tab147 tab149 tab152 tab163 tab168 tab173 tab174 tab187 tab192 tab202 tab207 tab210 tab212 tab214 tab225 tab226 tab230 tab232 tab244 tab248 tab250 tab254 tab261 tab280 tab290 tab301 tab302 tab305 tab308 tab320 tab324 tab326 tab328 tab332 tab352
end Go.Proofs.YtfcindonokhbeaaGreatDoor
end
section
namespace Go.Proofs.YtfcindonokhbeaaGreatDoor
open Go Go.Dm Go.Proofs Go.Proofs.Tryz
def FP(a b:Nat):((a:Int)==(b:Int))=(a==b):=by
 rw[gi];simp only[dq];omega
def zHJ(x:Nat):ag 306 [.c (.p (.f x))] (.c (.p (.b (oJ x)))):=by
 refine aa func306 λa d=>?_
 repeat' (first|exact⟨⟩|refine sp ?_)
 all_goals ((simp_all[oJ];done))
def DG(x:Nat):ag 188 [.c (.p (.f x))] (.c (.p (.i .u64 x))):=by
 intro X vals d a _ e
 match vals,e with
 | [v],⟨b,_⟩ =>
  simp only[bH,cJ,dO] at b;subst b;refine .inr ⟨.int .u64 x,X.w,?_,_,X,rfl,a,Step.refl a,vC (x:=.p (.i .u64 x)) rfl,rfl,d⟩;kernel_rfl
def mK(z:Int)(d:0<=z):ag 110 [.c (.p (.i .u64 z))] (.c (.p (.f z.toNat))):=by
 intro X vals e a _ g
 match vals,g with
 | [v],⟨b,_⟩ =>
  simp only[bH,cJ,dO] at b;obtain⟨n,rfl⟩:=Int.eq_ofNat_of_zero_le d;subst b;refine .inr ⟨.float .f64 n,X.w,?_,_,X,rfl,a,Step.refl a,vC (x:=.p (.f n)) rfl,rfl,e⟩;kernel_rfl
def zJz(x:Nat):ag 358 [.c (.p (.f x))] (.c (.p (.b (zIk x)))):=by
 refine aa func358 λa d=>?_
 repeat' (first|refine sp ?_|refine uF (DG _) ?_)
 all_goals ((simp_all[zIk];done))
def zQw(x:Nat):ag 315 [.c (.p (.f x))] (.tup [.c (.p (.i .i64 (oC x).1)),.c (.p (.i .i64 (oC x).2))]):=by
 refine aa func315 λa b=>?_
 repeat' (first|refine sp ?_|refine uF (zHJ _) ?_|refine uF (zJz _) ?_|refine aH (λ_=>?_) (λ_=>?_)|refine aY (λ_=>?_) (λ_=>?_))
 all_goals ((simp_all[oC];done))
def zE8(x:Nat):ag 201 [.c (.p (.f x))] (.c (.p (.i .u64 (bL x)))):=by
 refine aa func201 λa b=>?_
 repeat' (first|refine sp ?_|refine uF (DG _) ?_|refine aH (λ_=>?_) (λ_=>?_))
 all_goals ((simp_all[bL,oJ,MT];done))
def DA(x:Nat):ag 189 [.c (.p (.f x))] (.c (.p (.f (bL x)))):=by
 refine aa func189 λa b=>?_
 repeat' (first|exact⟨⟩|refine sp ?_|refine uF (zE8 _) ?_|refine uF (mK _ qd) ?_)
 all_goals (first|(with_reducible rfl)|(simp_all[];done)|(simp_all[];omega)|(simp_all[];(repeat' split)<;>omega))
def zAf(x:Nat):ag 111 [.c (.p (.f x))] (.c (.p (.f (bL x)))):=by
 refine aa func111 λa b=>?_
 repeat' (first|exact⟨⟩|refine sp ?_|refine uF (DA _) ?_)
 all_goals (first|(with_reducible rfl)|(simp_all[];done)|(simp_all[];omega)|(simp_all[];(repeat' split)<;>omega))
def zN(x y:Nat):ag 133 [.c (.p (.f x)),.c (.p (.f y))] (.c (.p (.b (bL x==bL y)))):=by
 refine aa func133 λa d=>?_
 repeat' (first|refine sp ?_|refine uF (zE8 _) ?_)
 all_goals ((simp_all[FP];done))
def zSB(x:Nat):ag 318 [.c (.p (.f x))] (.c (.p (.i .u64 (QV x)))):=by
 refine aa func318 λa b=>?_
 repeat' (first|exact⟨⟩|refine sp ?_|refine uF (zE8 _) ?_|refine aH (λ_=>?_) (λ_=>?_))
 all_goals ((simp_all[QV];done))
def QY(x y:Nat):ag 250 [.c (.p (.f x)),.c (.p (.f y))] (.c (.p (.i .i64 (zOR x y)))):=by
 refine aa func250 λa b=>?_
 repeat' (first|exact⟨⟩|refine sp ?_|refine uF (zSB _) ?_|refine aH (λ_=>?_) (λ_=>?_))
 all_goals (first|(simp_all[zOR];done)|(simp_all[zOR];omega))
def zDU(x:Int):ag 332 [.c (.p (.i .i64 x))] (.c (.p (.b false))):=by
 refine aa Tryz.func332 λa d=>?_
 repeat' (first|exact⟨⟩|refine sp ?_)
 all_goals (first|(with_reducible rfl)|(simp_all[];done)|(simp_all[];omega)|(simp_all[];(repeat' split)<;>omega))
def zDT(x:Nat):ag 359 [.c (.p (.f x))] (.c (.p (.b (oJ x)))):=by
 refine aa func359 λa d=>?_
 repeat' (first|exact⟨⟩|refine sp ?_)
 all_goals ((simp_all[oJ];done))
def zBV(a b:Int):ag 282 [.c (.p (.i .i64 a)),.c (.p (.i .i64 b))] (.c (.p (.i .i64 (zE2 a b)))):=by
 refine aa func282 λd e=>?_
 repeat' (first|refine sp ?_|refine uF (zDU _) ?_|refine aH (λ_=>?_) (λ_=>?_))
 all_goals (first|(simp_all[zE2];done)|(simp_all[zE2];omega))
def zKH(a b:Nat):ag 316 [.c (.p (.f a)),.c (.p (.f b))] (.c (.p (.i .i64 (zRs a b)))):=by
 refine aa func316 λd e=>?_
 repeat' (first|refine sp ?_|refine uF (zDT _) ?_|refine aH (λ_=>?_) (λ_=>?_))
 all_goals ((simp_all[zRs];done))
def zDj:ag 107 [.c (.p (.f 0)),.c (.p (.f 13830554455654793216))] (.c (.p (.f 9223372036854775808))):=by
 have e:Dm.bits .or .u64 (Dm.bits .andNot .u64 0 9223372036854775808) (Dm.bits .and .u64 13830554455654793216 9223372036854775808)=9223372036854775808:=qg
 refine aa func107 λa b=>?_
 repeat' (first|exact⟨⟩|refine sp ?_|refine uF (DG _) ?_|refine uF (mK _ qd) ?_)
 all_goals (first|(with_reducible rfl)|(simp_all[];done)|(simp_all[];omega)|(simp_all[];(repeat' split)<;>omega))
def zTF(n:Int):ag 108 [.c (.p (.i .i64 n))] (.c (.p (.f (if 0<=n then 9218868437227405312 else 18442240474082181120)))):=by
 refine aa func108 λa b=>?_
 repeat' (first|refine sp ?_|refine uF (mK _ qd) ?_|refine aH (λ_=>?_) (λ_=>?_))
 all_goals ((simp_all[];done))
def zTt:ag 109 [] (.c (.p (.f MT))):=by
 refine aa func109 λa b=>?_
 repeat' (first|refine sp ?_|refine uF (mK _ qd) ?_)
 all_goals ((simp_all[MT];done))
def dJ(x:Nat):ag 233 [.c (.p (.f x))] (.c (.p (.f (bL x)))):=by
 refine aa func233 λa b=>?_
 repeat' (first|refine sp ?_|refine uF (zHJ _) ?_|refine uF (mK _ qd) ?_|refine aH (λ_=>?_) (λ_=>?_))
 all_goals ((simp_all[bL,MT];done))
def zUg(a b:Int):ag 280 [.c (.p (.sl 1 [[.i .i64 a],[.i .i64 b]]))] (.c (.p (.i .i64 (if a==0 then b else a)))):=by
 refine aa func280 λd e=>?_
 repeat' (first|exact⟨⟩|refine sp ?_)
 refine eH aC aI 3 ?_
 repeat' (first|refine sp ?_|refine aH (λ_=>?_) (λ_=>?_))
 all_goals ((simp_all[];done))
def AU(a b:Nat):ag 243 [.c (.p (.f a)),.c (.p (.f b))] (.c (.p (.i .i64 (pC a b)))):=by
 refine aa func243 λd e=>?_
 repeat' (first|refine sp ?_|refine uF (zQw _) ?_|refine uF (zBV _ _) ?_|refine uF (zKH _ _) ?_|refine uF (zUg _ _) ?_|refine aH (λ_=>?_) (λ_=>?_)|((with_reducible apply aA.frz);exact rfl;exact rfl)|refine ai ?_)
 all_goals (first|(simp_all[pC];done)|(simp_all[pC];omega))
def XG(a b:Nat):ag 186 [.c (.p (.f a)),.c (.p (.f b))] (.c (.p (.b (pC a b==0)))):=by
 refine aa func186 λd e=>?_
 repeat' (first|exact⟨⟩|refine sp ?_|refine uF (AU _ _) ?_)
 all_goals (first|(with_reducible rfl)|(simp_all[];done)|(simp_all[];omega)|(simp_all[];(repeat' split)<;>omega))
def zD6(a b:Nat):ag 330 [.c (.p (.f a)),.c (.p (.f b))] (.c (.p (.f (uW a b)))):=by
 refine aa func330 λd e=>?_
 repeat' (first|refine sp ?_|refine uF (AU _ _) ?_|refine uF (dJ _) ?_|refine aH (λ_=>?_) (λ_=>?_))
 all_goals (first|(simp_all[uW];done)|(simp_all[uW];omega))
def zBi(a b:Nat):ag 200 [.c (.p (.f a)),.c (.p (.f b))] (.c (.p (.f (KS a b)))):=by
 refine aa func200 λd e=>?_
 repeat' (first|exact⟨⟩|refine sp ?_|refine uF (QY _ _) ?_|refine uF (DA _) ?_|refine aH (λ_=>?_) (λ_=>?_))
 all_goals (first|(simp_all[KS];done)|(simp_all[KS];omega))
def kX{a b:Ba}:ag 187 [.c (.p (.sl 1 (bS a))),.c (.p (.sl 1 (bS b)))] (.c (.p (.b (a==b)))):=by
 refine aa func187 λd e=>?_
 repeat' (first|exact⟨⟩|refine sp ?_)
 all_goals (first|(with_reducible rfl)|(simp_all[];done)|(simp_all[];omega)|(simp_all[];(repeat' split)<;>omega))
def DK{a:Ba}(b:a.length<=140737488355328):ag 175 [.c (.p (.sl 1 (bS a)))] (.c (.p (.sl 1 (bS a)))):=by
 refine aG ?_;refine aa func175 λd e=>?_;cases a with
 | nil =>
  repeat' (first|exact⟨⟩|refine sp ?_)
  simp[List.range_succ]
 | cons x l =>
  repeat' (first|refine sp ?_|((with_reducible refine And.intro ?_ ?_);decide))
  simp only[bw] at b;exact⟨qd,qd⟩
def xO{k m k' m':Int}{t t':Nat}{d d':Ba}:ag 104 [.agg (ndc k m t d),.agg (ndc k' m' t' d')] (.c (.p (.b (uX ⟨k,m,t,d⟩ ⟨k',m',t',d'⟩)))):=by
 refine aa func104 λa e=>?_
 repeat' (first|refine sp ?_|refine uF (XG _ _) ?_|refine uF kX ?_|refine aY (λ_=>?_) (λ_=>?_))
 all_goals ((simp_all[uX];done))
def eV{k m k' m':Int}{t t':Nat}{d d':Ba}:ag 77 [.agg (ndc k m t d),.agg (ndc k' m' t' d')] (.c (.p (.b (cH ⟨k,m,t,d⟩ ⟨k',m',t',d'⟩)))):=by
 refine aa func77 λa e=>?_
 repeat' (first|refine sp ?_|refine uF (zN _ _) ?_|refine aY (λ_=>?_) (λ_=>?_))
 all_goals ((simp_all[cH];done))
def rU{k m:Int}{t:Nat}{d:Ba}(a:d.length<=140737488355328):ag 141 [.agg (ndc k m t d)] (.agg (ndc k m t d)):=by
 refine aa func141 λb c=>?_
 repeat' (first|exact⟨⟩|refine sp ?_|refine uN (DK a) ?_)
 all_goals (first|(with_reducible rfl)|(simp_all[];done)|(simp_all[];omega)|(simp_all[];(repeat' split)<;>omega))
def zNR{k m k' m':Int}{t t':Nat}{d d':Ba}:ag 199 [.agg (ndc k m t d),.agg (ndc k' m' t' d')] (.c (.p (.b (lD ⟨k,m,t,d⟩ ⟨k',m',t',d'⟩)))):=by
 refine aa func199 λa e=>?_
 repeat' (first|exact⟨⟩|refine sp ?_|refine aY (λ_=>?_) (λ_=>?_))
 all_goals ((simp_all[lD];done))
def zTb{k m k' m':Int}{t t':Nat}{d d':Ba}:ag 329 [.agg (ndc k m t d),.agg (ndc k' m' t' d')] (.c (.p (.b (lD ⟨k,m,t,d⟩ ⟨k',m',t',d'⟩)))):=by
 refine aa func329 λa e=>?_
 repeat' (first|refine sp ?_|refine uF kX ?_|refine aY (λ_=>?_) (λ_=>?_))
 all_goals ((simp_all[lD];done))
def tH{p q:Ba}(a:p.length<=4611686018427387904)(d:q.length<=9223372036854775807):ag 160 [.c (.p (.s p)),.c (.p (.s q))] (.c (.p (.b (aT p q)))):=by
 have e:=ar p.length;refine aa func160 λf g=>?_
 repeat' (first|exact⟨⟩|refine sp ?_|refine aH (λ_=>?_) (λ_=>?_)|refine aY (λ_=>?_) (λ_=>?_)|((with_reducible refine And.intro ?_ ?_);((first|omega|(simp only[ew] at *;omega)))))
 all_goals (simp_all[aT];try (intro _;omega))
def FT{t:Bl}{p:Ba}(r:t.length<=1000000)(l:p.length<=4611686018427387904)(m:∀x∈t,x.p.length<=9223372036854775807):
  ag 247 [.c (.p (.sl 5 (aP t))),.c (.p (.s p))] (.c (.p (.sl 5 (aP (bN t p))))):=by
 refine aa func247 λu hX=>?_
 repeat' (first|exact⟨⟩|refine sp ?_)
 refine dM aC aI 5 5 rfl ?_;refine aJ aC aI (α:=Nat × Bl) (λx=>⟨29,[(0,.c (.p (.sl 5 (aP t)))),(1,.c (.p (.s p))),(5,.c (.own 0 0 x.2.length)),(6,.c (.p (.i .i64 x.1)))],[.arr 5 (aP x.2) false]⟩)
  (λx=>x.1<=t.length/\x.2.length<=x.1/\x.2++bN (t.drop x.1) p=bN t p) (λx=>t.length-x.1) (0,[]) ?_ ?_ ?_
 .exact⟨bc _,bg _,ql⟩
 .refine .inl (aB qj rfl rfl ?_);simp[bR,cL,bA,bD,aX]
 .rintro ⟨k,b⟩ ⟨n,e,a⟩;simp only at n e a;by_cases f:k<t.length
  .have d:=ay f;have o:=bX d;have g:=drop_at d;obtain⟨q,-,-,v⟩:=lk k t.length;generalize t[k]=x at d o g;have h:=m x (dr d)
   repeat' (first|exact⟨⟩|refine sp ?_|refine uF (tH l h) ?_|refine aH (λ_=>?_) (λ_=>?_)|((with_reducible refine And.intro ?_ ?_);((first|omega|decide))))
   .refine dN (k+1,b++[x]) 0 2 ⟨qd,qk,?_⟩ qk rfl rfl (aB rfl rfl rfl ?_)
    .rw[<- a,g];have j:aT p x.p=false:=by simpa using ‹(!aT p x.p)=true›
     simp[bN,j]
    .simp[bR,cL,bA,bD,aX,zJj,zE5,zJh]
   .refine cW (k+1,b) ⟨qd,qk,?_⟩ qk (aB rfl rfl rfl ?_)
    .rw[<- a,g];have j:aT p x.p=true:=by simpa using ‹(!aT p x.p)=false›
     simp[bN,j]
    .simp[bR,cL,bA,bD,aX]
  .have q:=aj k t.length
   repeat' (first|exact⟨⟩|refine sp ?_)
   have:k=t.length:=qd
   subst this;rw[ma] at a;rw[<- a];simp[bN]
def iM{p:Ba}(b:p.length<=4611686018427387904):ag 128 [.c (.p (.s p))] (.c (.p (.s (aU p)))):=by
 have d:IntKind.i64.wrap ((p.length:Int)-1)=p.length-1:=wrap_i64 qd qd;refine aa func128 λe hX=>?_
 repeat' (first|exact⟨⟩|refine sp ?_)
 refine aJ aC aI (α:=Nat) (λj=>⟨18,[(0,.c (.p (.s p))),(3,.c (.p (.i .i64 ((j:Int)-1))))],[]⟩) (λj=>j<=p.length/\cS p j=cS p p.length) (λj=>j) p.length ⟨bg _,rfl⟩ (.inl (aB qj rfl rfl wkS)) ?_;rintro (_|j) ⟨hj,hl⟩
 .repeat' (first|exact⟨⟩|refine sp ?_)
  simp only[aU,<- hl,cS]
 .have f:((j+1:Nat):Int)-1=j:=qd
  have g:IntKind.i64.wrap ((j:Int)-1)=j-1:=wrap_i64 qd qd;have d1:decide ((0:Int)<=j)=true:=df qd;simp only[cS] at hl
  repeat' (first|exact⟨⟩|refine sp ?_|refine aH (λ_=>?_) (λ_=>?_)|refine ai ?_)
  .rename_i a;rw[aw a] at hl;simp only[aU,<- hl]
  .rename_i a;rw[au (by rw[a];decide)] at hl;exact cW j ⟨qd,hl⟩ qd (aB rfl rfl rfl wkS)
def AZ{s:Ba}(j:s.length<=4611686018427387904):ag 116 [.c (.p (.s s))] (.c (.p (.b (bB s)))):=by
 refine aa func116 λl hX=>?_
 repeat' (first|exact⟨⟩|refine sp ?_)
 refine aJ aC aI (α:=Nat) (λk=>⟨36,[(0,.c (.p (.s s))),(3,.c (.p (.i .i64 k)))],[]⟩) (λk=>k<=s.length/\(s.drop k).all sH=s.all sH) (λk=>s.length-k) 0 ⟨bc _,rfl⟩ (.inl (aB qj rfl rfl wkS)) ?_;rintro k ⟨m,a⟩;by_cases d:k<s.length
 .have e:=ay d;have g:=zAN e;have f:=drop_at e;obtain⟨h,-,-,n⟩:=lk k s.length;generalize s[k]=x at e g f;rw[f,dz] at a
  repeat' (first|exact⟨⟩|refine sp ?_|refine aH (λ_=>?_) (λ_=>?_)|refine aY (λ_=>?_) (λ_=>?_)|refine ai ?_)
  .have:sH x=false:=by simp_all[sH]
   simp only[bB,<- a,this,dp]
  .have:sH x=false:=by simp_all[sH]
   simp only[bB,<- a,this,dp]
  .have:sH x=true:=by simp_all[sH]
   rw[this,cy] at a;exact cW (k+1) ⟨qd,a⟩ qd (aB rfl rfl rfl wkS)
 .have h:=aj k s.length;rw[cw qd,ju] at a;unfold bB;rw[<- a];clear a
  repeat' (first|exact⟨⟩|refine sp ?_|refine aY (λ_=>?_) (λ_=>?_))
  all_goals simp only[*,cy,gp,gz,dp,br,bh]
def zN2{s:Ba}(r:s.length<=1000000000):ag 244 [.c (.p (.s s))] (.c (.p (.sl 1 (encS (rL s))))):=by
 refine aa func244 λt hX=>?_
 repeat' (first|exact⟨⟩|refine sp ?_)
 refine dM aC aI 3 1 rfl ?_;refine aJ aC aI (α:=Nat × List Ba × Ba) (λx=>⟨31,[(0,.c (.p (.s s))),(3,.c (.own 0 0 x.2.1.length)),(4,.c (.p (.s x.2.2))),(5,.c (.p (.i .i64 x.1)))],[.arr 1 (encS x.2.1) false]⟩)
  (λx=>x.1<=s.length/\x.2.1.length<=x.1/\x.2.2.length<=x.1/\x.2.1++BZ x.2.2 (s.drop x.1)=rL s) (λx=>s.length-x.1) (0,[],[]) ⟨bc _,bg _,bg _,by simp[rL]⟩ (.inl (aB qj rfl rfl wkS)) ?_
 rintro⟨k,b,w⟩ ⟨l,e,f,a⟩;simp only at l e f a;by_cases g:k<s.length
 .have d:=ay g;have m:=zAN d;have j:=drop_at d;obtain⟨n,-,-,u⟩:=lk k s.length;have o:=zSt d;generalize s[k]=x at d m j o;rw[j] at a;simp only[BZ] at a
  repeat' (first|exact⟨⟩|refine sp ?_|refine aH (λ_=>?_) (λ_=>?_)|((with_reducible refine And.intro ?_ ?_);((first|omega|decide))))
  .rename_i h;rw[aw h] at a;exact dN (k+1,b++[w],[]) 0 2 ⟨qd,qk,ql,by simpa using a⟩ qk rfl rfl (aB rfl rfl rfl wkS)
  .rename_i h;rw[au (by rw[h];decide)] at a;exact cW (k+1,b,w++[x]) ⟨qd,qk,qk,a⟩ qk (aB rfl rfl rfl wkS)
 .have n:=aj k s.length;rw[cw qd] at a;simp only[BZ] at a;have q:(rL s).length=b.length+1:=by rw[<- a];simp
  repeat' (first|exact⟨⟩|refine sp ?_|((with_reducible refine And.intro ?_ ?_);((first|omega|decide))))
  all_goals rw[bu qd]
def gC{p:Ba}(j:p.length<=1000000000):ag 197 [.c (.p (.s p))] (.c (.p (.b (bZ p)))):=by
 have l:(rL p).length<=p.length+1:=pY p [];refine aa func197 λq hX=>?_
 repeat' (first|exact⟨⟩|refine sp ?_|refine uN (zN2 j) ?_|refine aH (λ_=>?_) (λ_=>?_))
 .rename_i f;simp only[bZ,f,e8]
 rename_i f;refine aJ aC aI (α:=Nat) (λk=>⟨24,[(0,.c (.p (.s p))),(3,.c (.p (.sl 1 (encS (rL p))))),(4,.c (.p (.i .i64 k)))],[]⟩)
  (λk=>k<=(rL p).length/\((rL p).drop k).all bB=(rL p).all bB) (λk=>(rL p).length-k) 0 ⟨bc _,rfl⟩ (.inl (aB qj rfl rfl wkS)) ?_
 rintro k ⟨r,d⟩;by_cases g:k<(rL p).length
 .have e:(rL p)[k]?=some (rL p)[k]:=ay g;have m:=encS_at e;have h:=drop_at e;have n:decide ((k:Int)<((rL p).length:Int))=true:=df qd;have t:=ar k;generalize (rL p)[k]=x at e m h;have o:x.length<=p.length:=by have:=CB p [] x (dr e);simpa using this
  rw[h,dz] at d
  repeat' (first|exact⟨⟩|refine sp ?_|refine uF (AZ (s:=x) qd) ?_|refine aH (λ_=>?_) (λ_=>?_)|refine ai ?_)
  .rename_i a;have a:bB x=false:=by simpa using a
   simp only[bZ,f,<- d,a,dp,dw]
  .rename_i a;have a:bB x=true:=by simpa using a
   rw[a,cy] at d;exact cW (k+1) ⟨qd,d⟩ qd (aB rfl rfl rfl wkS)
 .have n:decide ((k:Int)<((rL p).length:Int))=false:=er qd;rw[cw qd,ju] at d;unfold bZ
  repeat' (first|exact⟨⟩|refine sp ?_)
  all_goals rw[<- d,cy]
def fT{t:Bl}{p:Ba}(m:t.length<=1000000):
  ag 119 [.c (.p (.sl 5 (aP t))),.c (.p (.s p))] (.tup [.agg ((aN t p).getD nd0).cv,.c (.p (.b (aN t p).isSome))]):=by
 refine aG ?_;refine aa func119 λn hX=>?_
 repeat' (simp only[*,go_sem,Nat.reduceLT,])
 refine aJ aC aI (α:=Nat) (λk=>⟨26,[(0,.c (.p (.sl 5 (aP t)))),(1,.c (.p (.s p))),(4,.c (.ptr 0 0)),(6,.c (.p (.i .i64 k)))],[.box [.p (.i .i64 0),.p (.i .i64 0),.p (.f 0),.p .nil]]⟩)
  (λk=>k<=t.length/\aN (t.drop k) p=aN t p) (λk=>t.length-k) 0 ⟨bc _,rfl⟩ (.inl (aB qj rfl rfl qo)) ?_
 rintro k ⟨o,a⟩;by_cases d:k<t.length
 .have e:=ay d;have j:=bX e;have h:=drop_at e;obtain⟨l,-,-,q⟩:=lk k t.length;generalize t[k]=x at e j h;rw[h] at a;simp only[aN] at a
  repeat' (first|simp only[*,go_sem,Nat.reduceLT,Nat.reduceLeDiff,Nat.reduceEqDiff,↓reduceIte,Nat.reduceAdd,]|with_reducible refine aH (λ_=>?_) (λ_=>?_)|((with_reducible refine And.intro ?_ ?_);omega))
  .rename_i g;rw[aw g] at a;rw[<- a];simp only[fe,gy];simp
  .rename_i g;rw[au (by rw[g];decide)] at a;exact cW (k+1) ⟨qd,a⟩ qd (aB rfl rfl rfl qo)
 .have l:=aj k t.length;rw[cw qd] at a;simp only[aN] at a
  repeat' (simp only[*,go_sem,Nat.reduceLT,Nat.reduceLeDiff,Nat.reduceEqDiff,↓reduceIte,Nat.reduceAdd,])
  all_goals rw[<- a]
  all_goals simp[nd0,jJ]
def eA{t:Bl}{p:Ba}(a:t.length<=1000000):
  ag 129 [.c (.p (.sl 5 (aP t))),.c (.p (.s p))] (.c (.p (.b (aZ t p)))):=by
 have d:aZ t p=(p == [] || ((aN t p).isSome && ((aN t p).getD nd0).k==2)):=by
  unfold aZ;cases aN t p<;>rfl
 rw[d];refine aa func129 λe f=>?_
 repeat' (first|exact⟨⟩|refine sp ?_|refine uN (fT a) ?_|refine aY (λ_=>?_) (λ_=>?_))
 all_goals simp only[*,cy,gp,gz,dp,dw,e8]
def xX{t:Bl}{p:Ba}(j:t.length<=1000000)(l:p.length<=4611686018427387904)(m:∀x∈t,x.p.length<=9223372036854775807):
  ag 194 [.c (.p (.sl 5 (aP t))),.c (.p (.s p))] (.c (.p (.sl 5 (aP (bU t p))))):=by
 have n:(bN t p).length<=t.length:=ei ..;refine aa func194 λv hX=>?_
 repeat' (first|exact⟨⟩|refine sp ?_|refine uN (FT j l m) ?_)
 unfold bU;generalize bN t p=u at *;refine dM aC aI 5 5 rfl ?_;refine aJ aC aI (α:=Nat × Bl) (λx=>⟨32,[(0,.c (.p (.sl 5 (aP t)))),(1,.c (.p (.s p))),(6,.c (.p (.sl 5 (aP u)))),(5,.c (.own 0 0 x.2.length)),(7,.c (.p (.i .i64 x.1)))],[.arr 5 (aP x.2) false]⟩)
  (λx=>x.1<=u.length/\x.2.length<=x.1/\x.2++oV (u.drop x.1) p=oV u p) (λx=>u.length-x.1) (0,[]) ⟨bc _,bg _,ql⟩ (.inl (aB qj rfl rfl wkS)) ?_
 rintro⟨k,b⟩ ⟨o,d,a⟩;simp only at o d a;by_cases e:k<u.length
 .have f:=ay e;have q:=bX f;have h:=drop_at f;obtain⟨r,-,-,w⟩:=lk k u.length;generalize u[k]=x at f q h;rw[h,oV,fc] at a
  repeat' (first|exact⟨⟩|refine sp ?_|refine aH (λ_=>?_) (λ_=>?_)|((with_reducible refine And.intro ?_ ?_);((first|omega|decide))))
  .rename_i g;rw[aw (by simpa using g)] at a;exact dN (k+1,b++[x]) 0 2 ⟨qd,qk,by simpa[oV] using a⟩ qk rfl rfl (aB rfl rfl rfl wkS)
  .rename_i g;rw[au (by simpa using g)] at a;exact cW (k+1,b) ⟨qd,qk,a⟩ qk (aB rfl rfl rfl wkS)
 .have r:=aj k u.length;rw[cw qd] at a;simp only[oV,mn,dh] at a
  repeat' (first|exact⟨⟩|refine sp ?_)
  all_goals rfl
def zJP{d:Ba}(e:d.length<=1000000000):ag 245 [.c (.p (.sl 1 (bS d)))] (.c (.p (.b (gZ d)))):=by
 refine aa func245 λm hX=>?_
 repeat' (first|exact⟨⟩|refine sp ?_)
 refine aJ aC aI (α:=Nat) (λk=>⟨23,[(0,.c (.p (.sl 1 (bS d)))),(3,.c (.p (.i .i64 k)))],[]⟩) (λk=>k<=d.length/\(d.drop k).all (λb=>!((b.toNat:Int)==0))=d.all (λb=>!((b.toNat:Int)==0))) (λk=>d.length-k) 0 ⟨bc _,rfl⟩ (.inl (aB qj rfl rfl wkS)) ?_;rintro k ⟨n,a⟩;by_cases f:k<d.length
 .have g:=ay f;have j:=zGr g;have e:=drop_at g;obtain⟨l,-,-,o⟩:=lk k d.length;generalize d[k]=x at g j e;rw[e,dz] at a
  repeat' (first|exact⟨⟩|refine sp ?_|refine aH (λ_=>?_) (λ_=>?_)|refine ai ?_)
  .rename_i h;rw[h,bh,dp] at a;simp only[gZ,<- a,dp]
  .rename_i h;rw[h,br,cy] at a;exact cW (k+1) ⟨qd,a⟩ qd (aB rfl rfl rfl wkS)
 .have l:=aj k d.length;rw[cw qd,ju] at a;unfold gZ;rw[<- a];clear a
  repeat' (first|exact⟨⟩|refine sp ?_|refine aY (λ_=>?_) (λ_=>?_))
  all_goals simp only[*,cy,gp,gz,dp,br,bh]
def BC{t:Bl}{p:Ba}{k m:Int}{tt:Nat}{d:Ba}(v:t.length<=1000000):
  ag 193 [.c (.p (.sl 5 (aP t))),.c (.p (.s p)),.agg (ndc k m tt d)] (.c (.p (.sl 5 (aP (wL t p ⟨k,m,tt,d⟩))))):=by
 refine aa func193 λw hX=>?_
 repeat' (first|exact⟨⟩|refine sp ?_)
 refine dM aC aI 7 5 rfl ?_;refine aJ aC aI (α:=Nat × Bl × Bool) (λx=>⟨56,[(0,.c (.p (.sl 5 (aP t)))),(1,.c (.p (.s p))),(5,.c (.ptr 0 0)),(7,.c (.own 1 0 x.2.1.length)),(8,.c (.p (.b x.2.2))),(9,.c (.p (.i .i64 x.1)))],[.box (ndc k m tt d),.arr 5 (aP x.2.1) false]⟩)
  (λx=>x.1<=t.length/\x.2.1.length<=2*x.1/\x.2.1++zV p ⟨k,m,tt,d⟩ x.2.2 (t.drop x.1)=wL t p ⟨k,m,tt,d⟩) (λx=>t.length-x.1) (0,[],false) ⟨bc _,bg _,by simp[wL]⟩ (.inl (aB qj rfl rfl wkS)) ?_
 rintro⟨j,e,done⟩ ⟨q,h,a⟩;simp only at q h a;by_cases l:j<t.length
 .have n:=ay l;have r:=bX n;have o:=drop_at n;obtain⟨u,-,-,y⟩:=lk j t.length;generalize t[j]=x at n r o;rw[o,zV] at a;cases done
  .repeat' (first|exact⟨⟩|refine sp ?_|refine aH (λ_=>?_) (λ_=>?_)|((with_reducible refine And.intro ?_ ?_);((first|omega|decide))))
   .rename_i g f;simp only[g,f,br,cy,az,dw] at a;exact dN (j+1,e++[⟨p,⟨k,m,tt,d⟩⟩]++[x],true) 1 5 ⟨qd,qk,by simpa using a⟩ qk rfl rfl (aB rfl rfl rfl wkS)
   .rename_i g f;simp only[g,f,br,cy,az,dw,av,ax] at a;exact dN (j+1,e++[⟨p,⟨k,m,tt,d⟩⟩],true) 1 3 ⟨qd,qk,by simpa using a⟩ qk rfl rfl (aB rfl rfl rfl wkS)
   .rename_i g f;simp only[g,f,br,cy,az,dw,av,ax] at a;exact dN (j+1,e++[x],false) 1 3 ⟨qd,qk,by simpa using a⟩ qk rfl rfl (aB rfl rfl rfl wkS)
   .rename_i g f;simp only[g,f,br,cy,dw,av,ax] at a;exact cW (j+1,e,false) ⟨qd,qk,by simpa using a⟩ qk (aB rfl rfl rfl wkS)
  .repeat' (first|exact⟨⟩|refine sp ?_|refine aH (λ_=>?_) (λ_=>?_)|((with_reducible refine And.intro ?_ ?_);((first|omega|decide))))
   .rename_i f;simp only[f,bh,dp,az,e8,av,ax] at a;exact dN (j+1,e++[x],true) 1 3 ⟨qd,qk,by simpa using a⟩ qk rfl rfl (aB rfl rfl rfl wkS)
   .rename_i f;simp only[f,bh,dp,e8,av,ax] at a;exact cW (j+1,e,true) ⟨qd,qk,by simpa using a⟩ qk (aB rfl rfl rfl wkS)
 .have u:=aj j t.length;rw[cw qd] at a;cases done
  .simp only[zV,av,ax] at a
   repeat' (first|exact⟨⟩|refine sp ?_|((with_reducible refine And.intro ?_ ?_);((first|omega|decide))))
   all_goals rw[bu (by rw[<- a];simp)]
  .simp only[zV,az,dh] at a
   repeat' (first|exact⟨⟩|refine sp ?_)
   all_goals rw[a]
end Go.Proofs.YtfcindonokhbeaaGreatDoor
end
