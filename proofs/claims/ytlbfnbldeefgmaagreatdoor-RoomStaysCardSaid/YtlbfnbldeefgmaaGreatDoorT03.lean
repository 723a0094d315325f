/- Part 4 of the proof of roomStays_card, set without needless blanks. No condition. -/
import Derived.Test.YtlbfnbldeefgmaaGreatDoorT02
import Derived.LoopN
set_option linter.all false
set_option maxRecDepth 100000
set_option maxHeartbeats 16000000
section
section
namespace Go.Dm
open Go
variable {P:Program}{T:Tab}{n:Nat}{h:aB}{R:DV->aB->Prop}{s:DS}
def vc(P:Program)(T:Tab)(X0:Ctx):Code->DS->(Exit->DS->Prop)->Prop
 | .skip,s,Q=>Q .normal s
 | .ret,s,Q=>Q .ret s
 | .exit id,s,Q=>Q (.exit id) s
 | .seq x y,s,Q=>vc P T X0 x s λe s'=>match e with
  | .normal=>vc P T X0 y s' Q
  | e=>Q e s'
 | .block id c,s,Q=>vc P T X0 c s (mT id Q)
 | .cond c x y,s,Q=>match evD s.t c with
  | .c (.p (.b t))=>(t=true->vc P T X0 x s Q)/\(t=false->vc P T X0 y s Q)
  | _=>False
 | .region _ ops false,s,Q=>jP P T ops ops.toList s (Q .normal)
 | c,s,Q=>SWP P X0 c s Q
theorem dX{X0:Ctx}(hT:bF P T)(hm:P.follows .mixedOrders=true):∀(c:Code) {s:DS} {Q:Exit->DS->Prop},vc P T X0 c s Q->SWP P X0 c s Q
 | .skip,s,Q,h=>zJG h
 | .ret,s,Q,h=>zMH h
 | .exit id,s,Q,h=>zJD h
 | .seq x y,s,Q,h=>CH (gI (dX hT hm x h) λe s' hq=>by
   cases e<;>simp only at hq ⊢
   case normal=>exact dX hT hm y hq
   all_goals exact hq)
 | .block id c,s,Q,h=>RM (gI (dX hT hm c h) λe s' hq=>by
   cases e<;>simp only[mT] at hq ⊢<;>exact hq)
 | .cond c x y,s,Q,h=>by
   simp only[vc] at h;split at h
   .rename_i t ht;exact zJC ht (λe=>dX hT hm x (h.1 e)) (λe=>dX hT hm y (h.2 e))
   .exact h.elim
 | .region id ops false,s,Q,h=>zBZ hT h
 | .region id ops true,s,Q,h=>h
 | .loop c,s,Q,h=>h
 | .rangeFunc _ _ _ _,s,Q,h=>h
 | .scope _,s,Q,h=>h
 | .label _,s,Q,h=>h
 | .goto _,s,Q,h=>h
 | .refuse _,s,Q,h=>h
def zJ7(n:Nat)(h:aB)(d:DV)(R:DV->aB->Prop):Prop :=
 match zFX h d with
 | some d'=>((rL h (zMj d)).take n).all (bH n)=true/\R d' ((rL h (zMj d)).take n)
 | none=>False
theorem zJ7.fin{d:DV}(hf:zJ7 n h d R):Fin n h d R:=by
 unfold zJ7 at hf;split at hf
 .rename_i d' hd;exact .inr (.inl ⟨d',hd,hf.1,hf.2⟩)
 .exact hf.elim
def zB8(T:Tab)(n:Nat)(t:Fr)(h:aB)(R:DV->aB->Prop):List ResultVar->List EV->Prop
 | [],es=>zJ7 n h (HK es.reverse) R
 | .tmp i::rs,es =>
  match look t i with
  | .c x=>zB8 T n t h R rs (.c x::es)
  | .agg xs=>zB8 T n t h R rs (.agg xs::es)
  | _=>False
 | .cell a ty::rs,es=>(T ty).size≠0/\vA (T ty) h (look t a) λd =>
  match d with
  | .c x=>zB8 T n t h R rs (.c x::es)
  | .agg xs=>zB8 T n t h R rs (.agg xs::es)
  | _=>False
def XH(T:Tab)(n:Nat)(rs:List ResultVar)(R:DV->aB->Prop):Exit->DS->Prop
 | .normal,s=>zB8 T n s.t s.h R rs []
 | .ret,s=>zB8 T n s.t s.h R rs []
 | _,_=>False
theorem EC{T:TI}{a:DV}{K K':DV->Prop}(hk:∀d,K d->K' d)(hd:vA T h a K):vA T h a K':=by
 unfold vA at hd ⊢;revert hd;split
 .split
  .split
   .exactλh=>⟨h.1,hk _ h.2⟩
   .split
    .exactλh=>hk _ h
    .exactλh=>h
  .exactλh=>h
 .split
  .split
   .exactλh=>⟨h.1,h.2.1,hk _ h.2.2⟩
   .exactλh=>⟨h.1,h.2.1,hk _ h.2.2⟩
  .exactλh=>h
 .split
  .exactλh=>⟨h.1,hk _ h.2⟩
  .split
   .exactλh=>hk _ h
   .exactλh=>h
 .exactλh=>h
theorem nC: ∀(rs:List ResultVar) (es:List EV) {K:List EV->Prop},(∀l,zJ7 n s.h (HK (es.reverse++l)) R->K l)->zB8 T n s.t s.h R rs es->nI T s rs K
 | [],es,K,hk,h=>hk [] (by simpa[zB8] using h)
 | .tmp i::rs,es,K,hk,h=>by
  simp only[zB8,nI] at h ⊢;generalize look s.t i=d at h ⊢;cases d<;>simp only at h ⊢
  .exact nC rs _ (λl hl=>hk _ (by simpa using hl)) h
  .exact nC rs _ (λl hl=>hk _ (by simpa using hl)) h
 | .cell a ty::rs,es,K,hk,h=>by
  simp only[zB8,nI] at h ⊢;refine⟨h.1,EC (λd hd=>?_) h.2⟩;cases d<;>simp only at hd ⊢
  .exact nC rs _ (λl hl=>hk _ (by simpa using hl)) hd
  .exact nC rs _ (λl hl=>hk _ (by simpa using hl)) hd
theorem CO{rs:List ResultVar}{e:Exit}(h:XH T n rs R e s):dpost T n rs R e s:=by
 cases e<;>simp only[XH,dpost] at h ⊢
 case normal=>exact nC rs [] (λl hl=>zJ7.fin (by simpa using hl)) h
 case ret=>exact nC rs [] (λl hl=>zJ7.fin (by simpa using hl)) h
def kH: Nat->List DV->Fr
 | _,[]=>[]
 | i,d::l=>(i,d)::kH (i+1) l
theorem gJ: ∀(l:List DV) (i:Nat),(l.zipIdx i).map (λp=>(p.2,p.1))=kH i l
 | [],_=>rfl
 | d::l,i=>by simp only[List.zipIdx_cons,List.map_cons,kH,gJ l]
theorem ent (hT:bF P T) (hm:P.follows .mixedOrders=true) {f:FuncId} {fn:Func} {c:Code} {args:List DV} (hf:P.funcs[f]?=some fn) (hb:fn.body=some c)
 (hc:(Nat.ble args.length fn.ntmps && !(fn.name == "runtime.NumGoroutine"))=true)
 (hs:∀X0:Ctx,X0.h=h->vc P T X0 c ⟨fn.ntmps,kH 0 args,h⟩ (XH T h.length fn.results.toList R)):aA P f args h R:=by
 simp only[Bool.and_eq_true,Bool.not_eq_true'] at hc;refine fN hT hf hb (Nat.le_of_ble_eq_true hc.1) hc.2 λX0 hX=>?_;rw[gJ];exact gI (dX hT hm c (hs X0 hX)) λe s=>CO
end Go.Dm
end
section
namespace Go.Dm
open Go
section
variable {P:Program}{T:Tab}{X0:Ctx}
variable {ops:Array Oper}{rest l:List Oper}{n id n0 j:Nat}{t:Fr}{dst:Option Tmp}{K:DS->Prop}{s:DS}{Q:Exit->DS->Prop}{x y c:Code}{rs:List ResultVar}{R:DV->aB->Prop}{op:Op}{pos:String}{after:Array Edge}{h:aB}{b:Bool}{o:Oper}{d:DV}
inductive Later (p:Prop):Prop where
 | mk (h:p):Later p
theorem tM(p:Prop):Later p=p:=propext ⟨λ⟨h⟩=>h,.mk⟩
theorem nr{α:Sort _}{a b:α}(h:a=b):a=b:=h
def vsq(P:Program)(T:Tab)(X0:Ctx)(y:Code)(Q:Exit->DS->Prop):Exit->DS->Prop:=λe s'=>match e with
 | .normal=>Later (vc P T X0 y s' Q)
 | e=>Q e s'
def zB7(P:Program)(T:Tab)(X0:Ctx)(d:DV)(x y:Code)(s:DS)(Q:Exit->DS->Prop):Prop :=
 match d with
 | .c (.p (.b t))=>(t=true->vc P T X0 x s Q)/\(t=false->vc P T X0 y s Q)
 | _=>False
def zN2(P:Program)(T:Tab)(ops:Array Oper)(rest:List Oper)(n:Nat)(t:Fr)(dst:Option Tmp)(K:DS->Prop):DV->aB->Prop:=λd h'=>Later (jP P T ops rest (DS.put ⟨n,t,h'⟩ dst d h') K)
theorem JC{P:Program}{T:Tab}:zN2 P T ops rest n t dst K=λd h'=>jP P T ops rest (DS.put ⟨n,t,h'⟩ dst d h') K:=by
 funext d h';exact tM _
def kP(K:DV->aB->Prop)(h:aB):PV->Prop:=λx=>K (.c (.p x)) h
def kD(K:DV->aB->Prop)(h:aB):DV->Prop:=λd=>K d h
def kB(K:PV->Prop):Bool->Prop:=λb=>K (.b b)
def kN(K:PV->Prop):Bool->Prop:=λb=>K (.b (!b))
def kU(K:DV->aB->Prop):aB->Prop:=λh=>K (.tup []) h
def zAP(t:Fr):List Oper->Nat->Option DV
 | [],_=>none
 | o::_,0=>o.dst.map λi=>look t i
 | _::l,j+1=>zAP t l j
def nB(P:Program)(T:Tab)(ops:Array Oper)(g:Option DV)(b:Bool)(op:Op)(t:Fr)(h:aB)(K:DV->aB->Prop):Prop :=
 match g with
 | some (.c (.p (.b v)))=>(v=b->dop P T op t h K)/\(v≠b->K (.tup []) h)
 | some (.tup [])=>K (.tup []) h
 | _=>False
def XG(d:DV)(a b:DV)(h:aB)(K:DV->aB->Prop):Prop :=
 match d with
 | .c (.p (.b v))=>(v=true->K a h)/\(v=false->K b h)
 | _=>False
theorem zMU: vc P T X0 .skip s Q=Q .normal s:=nr rfl
theorem zOM: vc P T X0 .ret s Q=Q .ret s:=nr rfl
theorem zMS: vc P T X0 (.exit id) s Q=Q (.exit id) s:=nr rfl
theorem zON: vc P T X0 (.seq x y) s Q=vc P T X0 x s (vsq P T X0 y Q):=by
 have e:vsq P T X0 y Q=λe s'=>match e with
   | .normal=>vc P T X0 y s' Q
   | e=>Q e s':=by
  funext e s'
  cases e<;>first|rfl|exact tM _
 rw[e];rfl
theorem zJO: vc P T X0 (.block id c) s Q=vc P T X0 c s (mT id Q):=nr rfl
theorem zMR{c:Operand}:vc P T X0 (.cond c x y) s Q=zB7 P T X0 (evD s.t c) x y s Q:=nr rfl
theorem zGy: vc P T X0 (.region id l.toArray false) s Q=jP P T l.toArray l s (Q .normal):=nr rfl
theorem zMT: vc P T X0 (.loop c) s Q=SWP P X0 (.loop c) s Q:=nr rfl
theorem zP4: vsq P T X0 y Q .normal s=vc P T X0 y s Q:=tM _
theorem zP5: vsq P T X0 y Q .ret s=Q .ret s:=nr rfl
theorem zP3: vsq P T X0 y Q (.exit id) s=Q (.exit id) s:=nr rfl
theorem qb_n: mT id Q .normal s=Q .normal s:=nr rfl
theorem qb_r: mT id Q .ret s=Q .ret s:=nr rfl
theorem qb_e{id':Nat}:mT id Q (.exit id') s=if id'=id then Q .normal s else Q (.exit id') s:=nr rfl
theorem ql_e{α:Type}{I:α->DS}{J:α->Prop}{μ:α->Nat}{x:α}:zOo n0 I J μ x Q (.exit id) s=Q (.exit id) s:=nr rfl
theorem ql_r{α:Type}{I:α->DS}{J:α->Prop}{μ:α->Nat}{x:α}:zOo n0 I J μ x Q .ret s=Q .ret s:=nr rfl
theorem zMY: XH T n rs R .normal s=zB8 T n s.t s.h R rs []:=nr rfl
theorem zMZ: XH T n rs R .ret s=zB8 T n s.t s.h R rs []:=nr rfl
theorem zMW: zB7 P T X0 (.c (.p (.b true))) x y s Q=vc P T X0 x s Q:=by simp[zB7]
theorem zMV: zB7 P T X0 (.c (.p (.b false))) x y s Q=vc P T X0 y s Q:=by simp[zB7]
theorem aK{t:Bool}(h1:t=true->vc P T X0 x s Q)(h2:t=false->vc P T X0 y s Q):zB7 P T X0 (.c (.p (.b t))) x y s Q:=⟨h1,h2⟩
theorem zOR: jP P T ops [] s K=K s:=nr rfl
theorem zOS{ty:TypeId}:
  jP P T ops ({ dst:=dst,op:=op,type:=ty,pos:=pos,after:=after,guard:=none }::rest) ⟨n,t,h⟩ K=dop P T op t h (zN2 P T ops rest n t dst K):=by rw[JC];rfl
theorem zJQ{ty:TypeId}:
  jP P T l.toArray ({ dst:=dst,op:=op,type:=ty,pos:=pos,after:=after,guard:=some (j,b) }::rest) ⟨n,t,h⟩ K=nB P T l.toArray (zAP t l j) b op t h (zN2 P T l.toArray rest n t dst K):=by
 have e:∀(l:List Oper) (j:Nat),((l[j]?).bind (·.dst)).map (λi=>look t i)=zAP t l j:=by
  intro l
  induction l with
  | nil=>intro j;rfl
  | cons o l ih=>intro j;cases j with
   | zero=>rfl
   | succ j=>exact ih j
 rw[JC];simp only[jP,List.getElem?_toArray,e];rfl
theorem zLJ: zAP t (o::l) 0=o.dst.map λi=>look t i:=nr rfl
theorem zLI: zAP t (o::l) (j+1)=zAP t l j:=nr rfl
theorem zEA{i:Nat}(hi:i<n):zN2 P T ops rest n t (some i) K d h=jP P T ops rest ⟨n,(i,d)::t,h⟩ K:=by
 rw[JC];simp only[DS.put];rw[if_pos hi]
theorem zEz: zN2 P T ops rest n t none K d h=jP P T ops rest ⟨n,t,h⟩ K:=by rw[JC];rfl
theorem zPx{K:DV->aB->Prop}{x:PV}:kP K h x=K (.c (.p x)) h:=nr rfl
theorem zPv{K:DV->aB->Prop}:kD K h d=K d h:=nr rfl
theorem zPu{K:PV->Prop}:kB K b=K (.b b):=nr rfl
theorem zPw{K:PV->Prop}:kN K b=K (.b (!b)):=nr rfl
theorem zPy{K:DV->aB->Prop}:kU K h=K (.tup []) h:=nr rfl
section g
variable {ops:Array Oper}{op:Op}{t:Fr}{h:aB}{K:DV->aB->Prop}
variable {b v:Bool}{a x y c m i:Operand}{l:List Operand}{z:List PV}{parts:List (Nat × DV)}{n e len id off f ty:Nat}{o:BinOp}{K:DV->aB->Prop}{k:TI}{h:aB}{lo hi:Option Operand}{ats:Array TypeId}
theorem zP1: nB P T ops (some (.c (.p (.b true)))) true op t h K=dop P T op t h K:=by simp[nB]
theorem zPY: nB P T ops (some (.c (.p (.b false)))) false op t h K=dop P T op t h K:=by simp[nB]
theorem zP0: nB P T ops (some (.c (.p (.b true)))) false op t h K=K (.tup []) h:=by simp[nB]
theorem zPZ: nB P T ops (some (.c (.p (.b false)))) true op t h K=K (.tup []) h:=by simp[nB]
theorem zOP: nB P T ops (some (.tup [])) b op t h K=K (.tup []) h:=nr rfl
theorem bM(h1:v=true->nB P T ops (some (.c (.p (.b v)))) b op t h K)(h2:v=false->nB P T ops (some (.c (.p (.b v)))) b op t h K):nB P T ops (some (.c (.p (.b v)))) b op t h K:=by
 cases v
 .exact h2 rfl
 .exact h1 rfl
theorem vp_t{a b:DV}:XG (.c (.p (.b true))) a b h K=K a h:=by simp[XG]
theorem vp_f{a b:DV}:XG (.c (.p (.b false))) a b h K=K b h:=by simp[XG]
theorem vp_b{x y:Bool}:XG (.c (.p (.b v))) (.c (.p (.b x))) (.c (.p (.b y))) h K=K (.c (.p (.b (bif v then x else y)))) h:=by cases v<;>simp[XG]
theorem zLi: dop P T (.move x) t h K=K (evD t x) h:=nr rfl
theorem zDb: dop P T (.assign x) t h K=K (evD t x) h:=nr rfl
theorem zLk{b:Operand}:dop P T (.pick c a b) t h K=XG (evD t c) (evD t a) (evD t b) h K:=nr rfl
def zGz(k:TK)(z:List PV)(h:aB)(K:DV->aB->Prop):Prop :=
 match k with
 | .no=>False
 | _=>K (.c (.ptr h.length 0)) (h++[.box (z.map .p)])
theorem zHk{ty:TypeId}:dop P T (.alloc ty) t h K=zGz (T ty).k (T ty).zero h K:=nr rfl
def zQc(o:Option (List CV))(h:aB)(K:DV->aB->Prop):Prop :=
 match o with
 | some ys=>K (.c (.ptr h.length 0)) (h++[.box ys])
 | none=>False
theorem zNx{ty:TypeId}:dop P T (.box ty x) t h K=zQc (cellsD (evD t x)) h K:=nr rfl
def zM9(t:Fr):List (Nat × Operand)->List (Nat × DV)
 | []=>[]
 | p::l=>(p.1,evD t p.2)::zM9 t l
theorem TV(t:Fr):∀l:List (Nat × Operand),(l.map λp=>(p.1,evD t p.2))=zM9 t l
 | []=>rfl
 | p::l=>by simp only[List.map_cons,zM9,TV t l]
def evL(t:Fr):List Operand->List DV
 | []=>[]
 | x::l=>evD t x::evL t l
theorem MT(t:Fr):∀l:List Operand,l.map (evD t)=evL t l
 | []=>rfl
 | x::l=>by simp only[List.map_cons,evL,MT t l]
def zGx(T:Tab)(k:TK)(z:List PV)(parts:List (Nat × DV))(h:aB)(K:DV->aB->Prop):Prop :=
 match k with
 | .struct fs=>(∀f∈fs,(T f.1).size≠0) /\
  match xG T (λi=>(fs[i]?).map λf=>(f.2,(T f.1).size)) (z.map .p) parts with
  | some cells=>K (.agg cells) h
  | none=>False
 | .array _ e=>(T e).size≠0 /\
  match xG T (λi=>some (i*(T e).size,(T e).size)) (z.map .p) parts with
  | some cells=>K (.agg cells) h
  | none=>False
 | _=>False
theorem zHl{ty:TypeId}{l:List (Nat × Operand)}:dop P T (.build ty l.toArray) t h K=zGx T (T ty).k (T ty).zero (zM9 t l) h K:=by
 rw[<- TV];rfl
def RS(T:Tab)(place:List (Nat × Nat)):List CV->List (Nat × DV)->Option (List CV)
 | cells,[]=>some cells
 | cells,(i,d)::rest =>
  match place[i]?,cellsD d with
  | some (ft,off),some ys=>if ys.length=(T ft).size/\off+(T ft).size<=cells.length then RS T place (splice cells off ys) rest else none
  | _,_=>none
theorem RT(T:Tab)(fs:List (Nat × Nat)):∀(parts:List (Nat × DV)) (cells:List CV),xG T (λi=>(fs[i]?).map λf=>(f.2,(T f.1).size)) cells parts=RS T fs cells parts
 | [],_=>rfl
 | (i,d)::rest,cells=>by
  simp only[xG,RS];cases fs[i]? with
  | none=>rfl
  | some f =>
   cases cellsD d with
   | none=>rfl
   | some ys=>simp only[Option.map_some];rw[RT T fs rest _]
def RQ(sz:Nat):List CV->List (Nat × DV)->Option (List CV)
 | cells,[]=>some cells
 | cells,(i,d)::rest =>
  match cellsD d with
  | some ys=>if ys.length=sz/\i*sz+sz<=cells.length then RQ sz (splice cells (i*sz) ys) rest else none
  | _=>none
theorem RR(T:Tab)(sz:Nat):∀(parts:List (Nat × DV)) (cells:List CV),xG T (λi=>some (i*sz,sz)) cells parts=RQ sz cells parts
 | [],_=>rfl
 | (i,d)::rest,cells=>by
  simp only[xG,RQ];cases cellsD d with
  | none=>rfl
  | some ys=>simp only;rw[RR T sz rest _]
def zP2(o:Option (List CV))(h:aB)(K:DV->aB->Prop):Prop :=
 match o with
 | some cells=>K (.agg cells) h
 | none=>False
theorem zGA{cells:List CV}:zP2 (some cells) h K=K (.agg cells) h:=nr rfl
theorem zGv{fs:List (Nat × Nat)}:zGx T (.struct fs) z parts h K=((∀f∈fs,(T f.1).size≠0)/\zP2 (RS T fs (z.map .p) parts) h K):=by
 rw[<- RT];rfl
theorem zJN: zGx T (.array n e) z parts h K=((T e).size≠0/\zP2 (RQ (T e).size (z.map .p) parts) h K):=by
 rw[<- RR T];rfl
theorem zDc{ty:TypeId}{l:List (Nat × Operand)}:dop P T (.buildSlice ty len l.toArray) t h K=zI T ty len (zM9 t l) h K:=by
 rw[<- TV];rfl
theorem zLg{ty:TypeId}:dop P T (.load ty a) t h K=((T ty).size≠0/\vA (T ty) h (evD t a) (kD K h)):=nr rfl
theorem zHp{ty:TypeId}{ok:Bool}:dop P T (.lookup ty m x ok) t h K=zC1 T (T ty).k h (evD t m) (evD t x) ok (kD K h):=nr rfl
theorem zLm{ty:TypeId}{v:Operand}:dop P T (.mapUpdate ty m x v) t h K=zC6 T (T ty).k h (evD t m) (evD t x) (evD t v) (kU K):=nr rfl
theorem zHq{ty:TypeId}:dop P T (.makeMap ty none) t h K=ME (T ty).k h K:=nr rfl
theorem zHt{ty:TypeId}:dop P T (.store ty a x) t h K=MJ (T ty) h (evD t a) (evD t x) (kU K):=nr rfl
def zOQ(d:DV)(h:aB)(K:DV->aB->Prop):Prop :=
 match d with
 | .c (.ptr id off) =>
  match h[id]? with
  | some (.box _)=>K (.c (.ptr id off)) h
  | _=>False
 | .c (.eptr cs)=>K (.c (.eptr cs)) h
 | .c (.clo f cap)=>K (.c (.clo f cap)) h
 | _=>False
theorem zLj: dop P T (.nilCheck x) t h K=zOQ (evD t x) h K:=nr rfl
def zGw(P:Program)(ty:TypeId)(k:TI)(h:aB)(o:BinOp)(x y:DV)(K:DV->aB->Prop):Prop :=
 match zOm o x y with
 | some (id,b)=>zNe k.k (h[id]?) b h K
 | none=>LS o k x y (kP K h)∨zNn P o ty x y (kP K h)
theorem zNw{ty ty':TypeId}:dop P T (.binOp o ty x y ty') t h K=zGw P ty (T ty) h o (evD t x) (evD t y) K:=nr rfl
theorem zKc{ty:TypeId}{x:CV}{y:DV}{K:PV->Prop}:zNn P o ty (.c x) y K=False:=by
 refine eq_false ?_;rintro⟨xs,ys,b,h,_⟩;cases h
theorem ZT{ty:TypeId}{xs ys:List CV}(ps qs:List PV)(b:Bool)(e1:xs=ps.map .p)(e2:ys=qs.map .p)(f1:ps.all (λx=>(iK x).isSome)=true)(f2:qs.all (λx=>(iK x).isSome)=true)(hE:zGW P ty ps qs b)(hK:(o=.eql/\K (.c (.p (.b b))) h)∨(o=.neq/\K (.c (.p (.b (!b)))) h)):zGw P ty k h o (.agg xs) (.agg ys) K:=by
 subst e1 e2;have:zOm o (.agg (ps.map .p)) (.agg (qs.map .p))=none:=by cases o<;>rfl
 unfold zGw;rw[this];exact .inr ⟨ps,qs,b,rfl,rfl,f1,f2,hE,hK⟩
theorem zOK{ty:TypeId}{x y:PV}:zGw P ty k h o (.c (.p x)) (.c (.p y)) K=LS o k (.c (.p x)) (.c (.p y)) (kP K h):=by
 have e:zGw P ty k h o (.c (.p x)) (.c (.p y)) K=(LS o k (.c (.p x)) (.c (.p y)) (kP K h)∨zNn P o ty (.c (.p x)) (.c (.p y)) (kP K h)):=by cases o<;>exact nr rfl
 rw[e,zKc,or_false]
theorem zOJ{ty:TypeId}{y:PV}:zGw P ty k h o (.c (.own id off len)) (.c (.p y)) K=LS o k (.c (.own id off len)) (.c (.p y)) (kP K h):=by
 have e:zGw P ty k h o (.c (.own id off len)) (.c (.p y)) K=(LS o k (.c (.own id off len)) (.c (.p y)) (kP K h)∨zNn P o ty (.c (.own id off len)) (.c (.p y)) (kP K h)):=by cases o<;>exact nr rfl
 rw[e,zKc,or_false]
theorem zOI{ty:TypeId}:zGw P ty k h .eql (.c (.ptr id off)) (.c (.p (.o (.pointer none)))) K=zNe k.k (h[id]?) false h K:=nr rfl
theorem zOL{ty:TypeId}:zGw P ty k h .neq (.c (.ptr id off)) (.c (.p (.o (.pointer none)))) K=zNe k.k (h[id]?) true h K:=nr rfl
theorem zOT{c:List CV}:zNe (.ptr e) (some (.box c)) b h K=K (.c (.p (.b b))) h:=nr rfl
theorem zJr{j a b:Nat}:ZJ (.c (.own j a b)) id=(j==id):=nr rfl
theorem zJs{x:PV}:ZJ (.c (.p x)) id=false:=nr rfl
attribute [go_sem] zOK zOJ zOI zOL zOT zJr zJs
theorem zPi{o:UnOp}{ty:TypeId}:dop P T (.unOp o ty x) t h K=dun o (evD t x) (kP K h):=nr rfl
theorem zLd{src dst:TypeId}:dop P T (.convert src dst x) t h K=zCP T src dst (evD t x) h K:=nr rfl
def HA(t:Fr)(o:Option Operand)(d:Int):Option Int :=
 match o with
 | none=>some d
 | some x=>match evD t x with
  | .c (.p (.i _ n))=>some n
  | _=>none
def zGF(T:Tab)(k:TK)(h:aB)(x:DV)(lo hi:Int->Option Int)(K:DV->aB->Prop):Prop :=
 match k,x with
 | .str,.c (.p (.s l))=>match lo 0,hi l.length with
  | some a,some b=>0<=a/\a<=b/\b<=l.length/\K (.c (.p (.s ((l.take b.toNat).drop a.toNat)))) h
  | _,_=>False
 | .slice e,.c (.p (.sl k es))=>match lo 0,hi es.length with
  | some a,some b=>(T e).size≠0/\(T e).size=k/\0<=a/\a<=b/\b<=es.length/\K (.c (.p (.sl k ((es.take b.toNat).drop a.toNat)))) h
  | _,_=>False
 | .slice e,.c (.p .nil)=>match lo 0,hi 0 with
  | some a,some b=>(T e).size≠0/\0<=a/\a<=b/\b<=0/\K (.c (.p .nil)) h
  | _,_=>False
 | .slice e,.c (.own id off len) =>
  match h[id]? with
  | some (.arr k _ _)=>match lo 0,hi len with
   | some a,some b=>(T e).size≠0/\(T e).size=k/\0<=a/\a<=b/\b<=len/\K (.c (.own id (off+a.toNat) (b.toNat-a.toNat))) h
   | _,_=>False
  | _=>False
 | _,_=>False
theorem zKb(t:Fr)(o:Option Operand)(d:Int)(K:Int->Prop):bnd t o d K=match HA t o d with|some n=>K n|none=>False:=by
 cases o with
 | none=>rfl
 | some x =>
  simp only[bnd,HA];generalize evD t x=e;cases e with
  | c c=>cases c with
   | p p=>cases p<;>rfl
   | _=>rfl
  | _=>rfl
def zMX(T:Tab)(k:TK)(h:aB)(x:DV)(lo hi mx:Int->Option Int)(K:DV->aB->Prop):Prop :=
 match k,x with
 | .slice e,.c (.p (.sl k es))=>match lo 0,hi (-1),mx (-1) with
  | some a,some b,some c=>(T e).size≠0/\(T e).size=k/\a=0/\b=c/\0<=b/\b<=es.length/\K (.c (.full k (es.take b.toNat))) h
  | _,_,_=>False
 | _,_=>False
theorem zLe{ty:TypeId}{mx:Operand}:dop P T (.slice ty x lo hi (some mx)) t h K=zMX T (T ty).k h (evD t x) (HA t lo) (HA t hi) (HA t (some mx)) K:=by
 show zCS T ty (evD t x) (bnd t lo) (bnd t hi) (bnd t (some mx)) (λd=>K d h)=_;unfold zCS zMX;simp only[zKb];generalize (T ty).k=k;generalize evD t x=d;cases k with
 | slice e=>cases d with
  | c c=>cases c with
   | p p=>cases p with
    | sl k es =>
     simp only;cases HA t lo 0<;>simp only[and_false];cases HA t hi (-1)<;>simp only[and_false];cases HA t (some mx) (-1)<;>simp only[and_false]
    | _=>rfl
   | _=>rfl
  | _=>rfl
 | _=>rfl
theorem zHr{ty:TypeId}:dop P T (.slice ty x lo hi none) t h K=zGF T (T ty).k h (evD t x) (HA t lo) (HA t hi) K:=by
 show MI T ty h (evD t x) (bnd t lo) (bnd t hi) (λd=>K d h)=_;unfold MI zGF;simp only[zKb];generalize (T ty).k=k;generalize evD t x=d;cases k with
 | str=>cases d with
  | c c=>cases c with
   | p p=>cases p with
    | s l =>
     simp only;cases HA t lo 0<;>simp only;cases HA t hi (l.length:Int)<;>rfl
    | _=>rfl
   | _=>rfl
  | _=>rfl
 | slice e=>cases d with
  | c c=>cases c with
   | p p=>cases p with
    | nil =>
     simp only;cases HA t lo 0<;>simp only[and_false];cases HA t hi 0<;>simp only[and_false]
    | sl k es =>
     simp only;cases HA t lo 0<;>simp only[and_false];cases HA t hi (es.length:Int)<;>simp only[and_false]
    | _=>rfl
   | own id off len =>
    simp only;cases h[id]? with
    | none=>rfl
    | some b=>cases b with
     | arr k es r =>
      simp only;cases HA t lo 0<;>simp only[and_false];cases HA t hi (len:Int)<;>simp only[and_false]
     | _=>rfl
   | _=>rfl
  | _=>rfl
 | _=>rfl
theorem zDd{s:Nat}:dop P T (.fieldAddr s x f) t h K=LX T s h (evD t x) f (kD K h):=nr rfl
def zKL(T:Tab)(k:TK)(x:DV)(f:Nat)(K:DV->Prop):Prop :=
 match k,x with
 | .struct fs,.agg cells =>
  match fs[f]? with
  | some (ft,off)=>zDg (T ft) cells off K
  | none=>False
 | _,_=>False
theorem zHn: dop P T (.field ty x f) t h K=zKL T (T ty).k (evD t x) f (kD K h):=nr rfl
theorem zDe: dop P T (.indexAddr ty x i) t h K=zL T ty h (evD t x) (evD t i) (kD K h):=nr rfl
theorem zHo: dop P T (.index ty x i) t h K=MA T ty (evD t x) (evD t i) (kD K h):=nr rfl
def ZU(d:DV)(n:Nat)(h:aB)(K:DV->aB->Prop):Prop :=
 match d with
 | .tup xs =>
  match xs[n]? with
  | some e=>K e.toDV h
  | none=>False
 | _=>False
theorem zAv: dop P T (.extract x n) t h K=ZU (evD t x) n h K:=nr rfl
def zPX(f:FuncId)(c:Option (List KV))(h:aB)(K:DV->aB->Prop):Prop :=
 match c with
 | some cap=>K (.c (.clo f cap)) h
 | none=>False
theorem zLf{f:FuncId}:dop P T (.makeFunc (.func f) #[] l.toArray) t h K=zPX f (HC (evL t l)) h K:=by
 rw[<- MT];simp only[dop,zPX];cases HC (List.map (evD t) l)<;>rfl
theorem zLh{l:Operand}:dop P T (.makeSlice ty l c) t h K=zC3 T ty (evD t l) (evD t c) h K:=nr rfl
def zOO(P:Program)(d:DV)(args:List DV)(h:aB)(K:DV->aB->Prop):Prop :=
 match d with
 | .c (.clo g cap)=>aA P g (args++cap.map KV.toDV) h K
 | _=>False
theorem zLc{f:Operand}:dop P T (.call { callee:=.value f,args:=l.toArray,argTypes:=ats }) t h K=zOO P (evD t f) (evL t l) h K:=by
 rw[<- MT];simp only[dop];rfl
theorem zNz{tys:List Nat}:dop P T (.call { callee:=.builtin .len,args:=[x].toArray,argTypes:=(ty::tys).toArray }) t h K=dlen (T ty) h (evD t x) (kD K h):=by
 simp only[dop];rfl
theorem zC9{tu:Nat}:dop P T (.call { callee:=.builtin .append,args:=[x,y].toArray,argTypes:=[ty,tu].toArray }) t h K=zG T ty tu (evD t x) (evD t y) h K:=by
 simp only[dop]
theorem zHm: dop P T (.call { callee:=.builtin .clear,args:=[x].toArray,argTypes:=[ty].toArray }) t h K=LW T ty (evD t x) h K:=by
 simp only[dop]
theorem zNB: dop P T (.call { callee:=.builtin .min,args:=l.toArray,argTypes:=ats }) t h K=dmm true (evL t l) (kD K h):=by
 rw[<- MT];simp only[dop];rfl
theorem zNA: dop P T (.call { callee:=.builtin .max,args:=l.toArray,argTypes:=ats }) t h K=dmm false (evL t l) (kD K h):=by
 rw[<- MT];simp only[dop];rfl
end g
section b
variable {k:IntKind}{a b:Int}{x y:List UInt8}{K:PV->Prop}{T0:TI}
variable {op:BinOp}{k':IntKind}
theorem db_i(h1:op≠.shl)(h2:op≠.shr):LS op T0 (.c (.p (.i k a))) (.c (.p (.i k' b))) K=(k=k'/\zNu op k a b K):=by
 cases op<;>first|rfl|exact absurd rfl h1|exact absurd rfl h2
theorem zNp: LS .shl T0 (.c (.p (.i k a))) (.c (.p (.i k' b))) K=(0<=b/\K (.i k (k.wrap (a*2 ^ (min b.toNat k.bits))))):=nr rfl
theorem zNq: LS .shr T0 (.c (.p (.i k a))) (.c (.p (.i k' b))) K=(0<=b/\K (.i k (a.fdiv (2 ^ (min b.toNat k.bits))))):=nr rfl
theorem db_s: LS op T0 (.c (.p (.s x))) (.c (.p (.s y))) K=zNH op x y K:=nr rfl
theorem db_f{x y:Nat}:LS op T0 (.c (.p (.f x))) (.c (.p (.f y))) K=zNr op x y K:=nr rfl
def vbb(k:TK)(op:BinOp)(a b:Bool)(K:PV->Prop):Prop :=
 match k,op with
 | .bool,.eql=>K (.b (a==b))
 | .bool,.neq=>K (.b (!(a==b)))
 | _,_=>False
theorem db_b{x y:Bool}:LS op T0 (.c (.p (.b x))) (.c (.p (.b y))) K=vbb T0.k op x y K:=nr rfl
def vnl(k:TK)(op:BinOp)(x:PV)(K:PV->Prop):Prop :=
 match k,op with
 | .slice _,.eql=>zE4 x (kB K)
 | .slice _,.neq=>zE4 x (kN K)
 | _,_=>False
theorem db_n{x:PV}:LS op T0 (.c (.p x)) (.c (.p .nil)) K=vnl T0.k op x K:=by
 cases x<;>rfl
end b
end
end Go.Dm
end
section
namespace Go.Dm
open Go
theorem wrap_u64{n:Int}(h1:0<=n)(h2:n<=18446744073709551615):IntKind.u64.wrap n=n:=by
 simp only[IntKind.wrap,IntKind.bits,IntKind.signed,Bool.false_and,Bool.false_eq_true,if_false];omega
theorem wrap_u8{n:Int}(h1:0<=n)(h2:n<=255):IntKind.u8.wrap n=n:=by
 simp only[IntKind.wrap,IntKind.bits,IntKind.signed,Bool.false_and,Bool.false_eq_true,if_false];omega
theorem zJ2(b:UInt8):IntKind.u8.wrap (b.toNat:Int)=b.toNat:=wrap_u8 (by omega) (by have:=b.toNat_lt;omega)
theorem zGP(b:UInt8):IntKind.i64.wrap (b.toNat:Int)=b.toNat:=wrap_i64 (by omega) (by have:=b.toNat_lt;omega)
theorem zGQ(b:UInt8):IntKind.u64.wrap (b.toNat:Int)=b.toNat:=wrap_u64 (by omega) (by have:=b.toNat_lt;omega)
def SD(h':aB)(dst:Option Tmp)(v:DV):DS->Prop:=λs'=>s'.h=h'/\res s' dst=v
section
variable {P:Program}{T:Tab}{X0:Ctx}
variable {h h':aB}{i n id:Nat}{v:DV}{t:Fr}{l:List Oper}{rest chain:List Nat}{K:DS->Prop}{o:Oper}{old:List aB}{Q:Exit->DS->Prop}
theorem zEu: SD h' (some i) v ⟨n,t,h⟩=(h=h'/\look t i=v):=nr rfl
theorem zEt: SD h' none v ⟨n,t,h⟩=(h=h'/\.tup []=v):=nr rfl
theorem NS{S:List Nat}{j:Nat}(h:S.contains j=true):look (keep S t) j=look t j:=by rw[pB,if_pos h]
theorem zLp(v:DV)(ho:l[i]?=some o)
 (h1:∀S:List Nat,S=o.looksAt l.toArray->jP P T l.toArray [o] ⟨n,keep S t,h⟩ (SD h o.dst v))(h3:vF P T l.toArray n [] K rest (SG t o.dst v) [h]):vF P T l.toArray n [] K (i::rest) t [h] :=
 MH v (by simpa using ho) rfl (h1 _ rfl) (by simp) h3
theorem zLq(v:DV)(ho:l[i]?=some o)(hc:chain.contains i=false)
 (h1:∀S:List Nat,S=o.looksAt l.toArray->∀h0∈h::old.take (old.length-zN3 l.toArray chain i),jP P T l.toArray [o] ⟨n,keep S t,h0⟩ (SD h0 o.dst v))(h3:vF P T l.toArray n chain K rest (SG t o.dst v) (h::old)):
  vF P T l.toArray n chain K (i::rest) t (h::old) :=
 MH v (by simpa using ho) hc (h1 _ rfl h (by simp)) (λh0 hh=>h1 _ rfl h0 (by simp[hh])) h3
theorem zPj(v:DV)(h':aB)(ho:l[i]?=some o)(hc:chain.contains i=true)
 (h1:∀S:List Nat,S=o.looksAt l.toArray->jP P T l.toArray [o] ⟨n,keep S t,h⟩ (SD h' o.dst v))(h3:vF P T l.toArray n chain K rest (SG t o.dst v) (h' :: h::old)):
  vF P T l.toArray n chain K (i::rest) t (h::old) :=
 zLr v h' (by simpa using ho) hc (h1 _ rfl) h3
theorem aO(hk:K ⟨n,t,h⟩):vF P T l.toArray n chain K [] t (h::old):=zHy hk
theorem zJP{ops:Array Oper}{s:DS}:vc P T X0 (.region id ops true) s Q=SWP P X0 (.region id ops true) s Q:=nr rfl
theorem aG(hT:bF P T)(hm:P.follows .mixedOrders=true)(chain order:List Nat)(hp:tX l.toArray n chain order=true)(hd:vF P T l.toArray n chain (Q .normal) order t [h]):
  SWP P X0 (.region id l.toArray true) ⟨n,t,h⟩ Q:=swp_drawn hT hm chain order hp hd
theorem aC: SG t (some i) v=(i,v)::t:=nr rfl
theorem bE: SG t none v=t:=nr rfl
end
section use
variable {P:Program}{f:FuncId}{args args':List DV}{h:aB}{r:DV}{K:DV->aB->Prop}
theorem useF(hc:aA P f args [] λd h'=>d=r/\h'=[])(hp:iH h args=some args)(hfl:MX r=true)(hk:K r h):aA P f args h K:=aA.useFlat hc hp hfl hk
theorem useN(hc:aA P f args [] λd h'=>d=r/\h'=[])(hp:iH h args=some args)(hsh:∀n,r.sh n=r)(hk:K r (rL h (lY args))):aA P f args h K:=aA.use hc hp hsh hk
theorem zGu{α:Type}{C:α->Prop}{e:α->DV}(hc:aA P f args [] λd h'=>∃x,C x/\d=e x/\h'=[])(hp:iH h args=some args)(hfl:∀x,C x->MX (e x)=true)(hk:∀x,C x->K (e x) h):aA P f args h K :=
 (aA.flat h hp (λd h0 ⟨x,hx,hd,_⟩=>by rw[hd];exact hfl x hx) hc).mono λd h' ⟨⟨h0,x,hx,h1,h2⟩,h3⟩=>by
  rw[h1,h3];exact hk x hx
theorem aA.frz(hne:(lY args).isEmpty=false)(hp:iH h args=some args')(hd:aA P f args' (rL h (lY args)) K):aA P f args h K:=by
 intro X vals hh hi gd hr;obtain⟨X',h1,h2,h3,h4,h5,h6⟩:=jJ (lY args) hi;rw[<- hh] at hp hd;have hr':dL X' args' vals:=mL (Y:=X') hi h4 h1 rfl rfl hr hp h6;have key:∀v w',Ret X' K v w'->Ret X K v w':=λv w' ⟨d,Y,k1,k2,k3,k4,k5⟩=>⟨d,Y,k1,k2,h4.trans h5 k3,k4,k5⟩;rw[<- h1];rcases hd X' vals h2 h5 (gd.step h4) hr' with⟨h7,h8⟩|⟨v,w',h7,h8⟩
 .exact .inl ⟨h7,h8.mono λe w' ⟨v,he,hv⟩=>⟨v,he,key _ _ hv⟩⟩
 .exact .inr ⟨v,w',h7,key _ _ h8⟩
end use
attribute [go_sem] Nat.zero_add Nat.add_zero Nat.mul_one zHA List.take_length List.drop_zero List.length_map
attribute [go_sem] cond_true cond_false
attribute [go_sem] wrap_i64 wrap_u64 wrap_u8 zJ2 zGP zGQ zMU zOM zMS zON zJO zMR zGy zJP zMT zP4 zP5 zP3 qb_n qb_r qb_e ql_e ql_r zMY zMZ zMW zMV zOR zOS zJQ zLJ zLI
 zEA zEz zPx zPv zPu zPw zPy zP1 zPY zP0 zPZ zOP vp_t vp_f vp_b zLi zDb zLk zGz zHk zQc zNx zM9 evL zHl RS RQ zGA zGv zJN zDc
 zLg zHt zOQ zLj zNw zPi zLd HA zGF zHr zMX zLe zDd zKL zHn zDe zHo ZU zAv zPX zLf zLh zOO zLc zNz zC9 zHm zNB zNA
 db_i zNp zNq db_s db_f vbb db_b vnl db_n zEu zEt aC bE
attribute [go_sem] zHp zLm zHq zC1 zC6 ME zNW zL8 zOe zOf zOg zI1
attribute [go_sem] zB8 zJ7 HK zLz zD2 zIj zAE LM cK zNu zNr zNH dun vA MJ LX zDg zL MA zCP zI dlen zG LW zQ dmm zC3 cellsD EV.toDV KV.toDV HC zKZ zKY TK.agg splice cellss zKu pvs PT zLL AA zEj
 zFX TM iH SY zIi EE zMj zNs lY zPk zAy rL zGU bH aT iJ oL kH zI2 NZ WA zE5 zE6 wG lQ DV.sh CV.sh EV.sh KV.sh zIn MW zD9 MX
attribute [go_sem] List.getElem?_cons_zero List.getElem?_cons_succ List.map_cons List.map_nil List.take_succ_cons List.take_zero List.take_nil List.drop_succ_cons List.drop_zero List.drop_nil List.nil_append List.cons_append List.append_nil List.set_cons_zero List.set_cons_succ
 List.length_cons List.length_nil List.length_append List.length_singleton List.all_cons List.all_nil List.reverse_cons List.reverse_nil Option.map_some Option.map_none Option.bind_some List.getD_cons_zero List.getD_cons_succ List.isEmpty_nil
 ne_eq not_false_eq_true not_true_eq_false true_and and_true false_and and_false reduceCtorEq decide_true decide_false Bool.false_eq_true Int.toNat_natCast Bool.not_true Bool.not_false eq_self true_implies false_implies List.forall_mem_cons forall_const implies_true List.not_mem_nil List.mem_cons or_false forall_eq_or_imp forall_eq Int.cast_ofNat_Int
 List.toList_toArray Bool.and_true Bool.true_and Bool.and_false Bool.false_and Bool.or_false Bool.or_true Bool.true_or Bool.false_or
end Go.Dm
end
section
namespace Go.Dm
open Go
section
variable {P:Program}{T:Tab}{X0:Ctx}{c:Code}{Q:Exit->DS->Prop}
variable {n:Nat}{s:DS}{t t':Fr}{h:aB}
def VR(P:Program)(T:Tab)(X0:Ctx)(c:Code)(Q:Exit->DS->Prop):Nat->DS->Prop
 | 0,_=>False
 | n+1,s=>vc P T X0 c s λe s'=>match e with
  | .normal=>VR P T X0 c Q n s'
  | e=>Q e s'
def NM(P:Program)(T:Tab)(X0:Ctx)(c:Code)(Q:Exit->DS->Prop)(n:Nat):Exit->DS->Prop:=λe s'=>match e with
 | .normal=>Later (VR P T X0 c Q n s')
 | e=>Q e s'
theorem zKU: VR P T X0 c Q (n+1) s=vc P T X0 c s (NM P T X0 c Q n):=by
 have e:NM P T X0 c Q n=λe s'=>match e with
   | .normal=>VR P T X0 c Q n s'
   | e=>Q e s':=by
  funext e s'
  cases e<;>first|rfl|exact tM _
 rw[e];rfl
theorem kr_n: NM P T X0 c Q n .normal s=VR P T X0 c Q n s:=tM _
theorem kr_r: NM P T X0 c Q n .ret s=Q .ret s:=nr rfl
theorem kr_e{id:Nat}:NM P T X0 c Q n (.exit id) s=Q (.exit id) s:=nr rfl
theorem dY(hT:bF P T)(hm:P.follows .mixedOrders=true)(n:Nat)(h:VR P T X0 c Q n s):SWP P X0 (.loop c) s Q:=by
 intro gd X a hh hi hs ht;refine wp_loop_rounds n ?_
 induction n generalizing s X a with
 | zero=>exact h.elim
 | succ n ih =>
  refine wp_mono (dX hT hm c h gd X a hh hi hs ht) λe a' w' hp=>?_;obtain⟨s',Z,p1,rfl,p3,p4,p5,p6⟩:=hp;cases e<;>simp only[Exit.then] at p1 ⊢
  case normal=>exact ih p1 Z a' p3 p4 p5 p6
  all_goals exact⟨s',Z,p1,rfl,p3,p4,p5,p6⟩
theorem aF{n0:Nat}{h':aB}(h0:(Nat.ble n0 h'.length)=true)(h1:h'=h.take h'.length)(h2:h'.all (bH h'.length)=true)(h3:WkT h'.length t t'):DR n0 ⟨n,t,h⟩ ⟨n,t',h'⟩ :=
 ⟨rfl,Nat.le_of_ble_eq_true h0,h1,h2,h3⟩
theorem gG: WkT n t []=True:=nr rfl
theorem eB{i:Nat}{d:DV}:WkT n t ((i,d)::t')=((look t i=d/\bW n d=true)/\WkT n t t'):=nr rfl
theorem iQ(hT:bF P T)(hm:P.follows .mixedOrders=true)(i k:Nat)(hn:look t i=.c (.p .nil))(hd:SWP P X0 c ⟨n,(i,.c (.own h.length 0 0))::t,h++[.arr k [] false]⟩ Q):SWP P X0 c ⟨n,t,h⟩ Q :=
 zJH i k hn hd
end
theorem zGL{k:Nat}:wkD (.c (.p .nil)) (.c (.p (.sl k []))):=zGN
theorem zGM{x:PV}:wkD (.c (.p x)) (.c (.p x)):=wkP.rfl
theorem allB(l:List UInt8):(∀x∈bJ l,x.length=1)=True:=eq_true (zHB l)
theorem zHz(a b:List UInt8):bJ a++bJ b=bJ (a++b):=(TS a b).symm
theorem zNm(n:Int)(l:List UInt8)(h1:0<=n)(h2:n<=255):[PV.i .u8 n]::bJ l=bJ (UInt8.ofNat n.toNat::l):=by
 simp only[bJ,List.map_cons]
 congr 2
 have:(UInt8.ofNat n.toNat).toNat=n.toNat:=by rw[UInt8.toNat_ofNat'];omega
 rw[this]
 congr 1
 omega
theorem zMK{α:Type}(n:Nat)(a:α)(l:List α):List.take (1+n) (a::l)=a::List.take n l:=by rw[Nat.add_comm];rfl
theorem zML{α:Type}(n:Nat)(a:α)(l:List α):List.take (2+n) (a::l)=a::List.take (1+n) l:=by rw[show 2+n=(1+n)+1 by omega];rfl
theorem zMM{α:Type}(n:Nat)(a:α)(l:List α):List.take (3+n) (a::l)=a::List.take (2+n) l:=by rw[show 3+n=(2+n)+1 by omega];rfl
attribute [go_sem] zNm zMK zML zMM
attribute [go_sem] zDj zDi allB zHz
attribute [go_sem] exists_eq_right wkD wkE zM0 wkC zGK wkP
attribute [go_sem] zKU kr_n kr_r kr_e gG eB bW
end Go.Dm
end
section
namespace Go.Dm
open Go
section
variable {P:Program}{T:Tab}{X0:Ctx}
variable {S rest chain:List Nat}{t:Fr}{h:aB}{K:DS->Prop}{l:List Oper}{o:Oper}{n i:Nat}{old:List aB}{p:aB->Prop}
theorem zIk{x:Operand}(h:∀i,x=.tmp i->S.contains i=true):evD (keep S t) x=evD t x:=by
 cases x with
 | tmp i=>simp only[evD];exact NS (h i rfl)
 | _=>rfl
theorem zHu{op:Op}{K:DV->aB->Prop}(hS:∀x∈op.operands.toList,∀i,x=.tmp i->S.contains i=true):dop P T op (keep S t) h K=dop P T op t h K:=by
 have e:∀x∈op.operands.toList,evD (keep S t) x=evD t x:=λx hx=>zIk (hS x hx);have em:∀l:List Operand,(∀x∈l,x∈op.operands.toList)->l.map (evD (keep S t))=l.map (evD t):=λl hl=>List.map_congr_left λx hx=>e x (hl x hx);cases op with
 | move x=>simp only[dop,e x (by simp[Op.operands])]
 | assign x=>simp only[dop,e x (by simp[Op.operands])]
 | pick c a b=>simp only[dop,e c (by simp[Op.operands]),e a (by simp[Op.operands]),e b (by simp[Op.operands])]
 | alloc ty=>rfl
 | box ty x=>simp only[dop,e x (by simp[Op.operands])]
 | build ty ps =>
  simp only[dop];rw[List.map_congr_left (g:=λp=>(p.1,evD t p.2)) λp hp=>by rw[e p.2 (by simp only[Op.operands,List.toList_toArray,List.mem_map];exact⟨p,hp,rfl⟩)]]
 | buildSlice ty n ps =>
  simp only[dop];rw[List.map_congr_left (g:=λp=>(p.1,evD t p.2)) λp hp=>by rw[e p.2 (by simp only[Op.operands,List.toList_toArray,List.mem_map];exact⟨p,hp,rfl⟩)]]
 | load ty x=>simp only[dop,e x (by simp[Op.operands])]
 | store ty a v=>simp only[dop,e a (by simp[Op.operands]),e v (by simp[Op.operands])]
 | nilCheck x=>simp only[dop,e x (by simp[Op.operands])]
 | binOp o ty a v ty'=>simp only[dop,e a (by simp[Op.operands]),e v (by simp[Op.operands])]
 | unOp o ty x=>simp only[dop,e x (by simp[Op.operands])]
 | convert s d x=>simp only[dop,e x (by simp[Op.operands])]
 | slice ty x lo hi mx =>
  have e1:=e x (by simp[Op.operands]);have e2:∀d K,bnd (keep S t) lo d K=bnd t lo d K:=λd K=>by
   cases lo with
   | none=>rfl
   | some y=>simp only[bnd,e y (by simp[Op.operands])]
  have e3:∀d K,bnd (keep S t) hi d K=bnd t hi d K:=λd K=>by
   cases hi with
   | none=>rfl
   | some y=>simp only[bnd,e y (by simp[Op.operands])]
  have e4:∀d K,bnd (keep S t) mx d K=bnd t mx d K:=λd K=>by
   cases mx with
   | none=>rfl
   | some y=>simp only[bnd,e y (by simp[Op.operands])]
  have e2:bnd (keep S t) lo=bnd t lo:=funext λd=>funext λK=>e2 d K;have e3:bnd (keep S t) hi=bnd t hi:=funext λd=>funext λK=>e3 d K;have e4:bnd (keep S t) mx=bnd t mx:=funext λd=>funext λK=>e4 d K;cases mx with
  | some y =>
   simp only[dop];rw[e2,e3,e4,e1]
  | none =>
   simp only[dop];rw[e2,e3,e1]
 | fieldAddr s x f=>simp only[dop,e x (by simp[Op.operands])]
 | field ty x f=>simp only[dop,e x (by simp[Op.operands])]
 | indexAddr ty a v=>simp only[dop,e a (by simp[Op.operands]),e v (by simp[Op.operands])]
 | index ty a v=>simp only[dop,e a (by simp[Op.operands]),e v (by simp[Op.operands])]
 | extract x n=>simp only[dop,e x (by simp[Op.operands])]
 | makeFunc f first cap =>
  cases f with
  | func f =>
   simp only[dop];rw[em cap.toList λx hx=>by simp only[Op.operands,Array.toList_append,List.mem_append];exact .inr hx]
  | _=>rfl
 | makeSlice ty a v=>simp only[dop,e a (by simp[Op.operands]),e v (by simp[Op.operands])]
 | makeMap ty r =>
  cases r with
  | none=>rfl
  | some _=>rfl
 | lookup ty m x ok=>simp only[dop,e m (by simp[Op.operands]),e x (by simp[Op.operands])]
 | mapUpdate ty m x v=>simp only[dop,e m (by simp[Op.operands]),e x (by simp[Op.operands]),e v (by simp[Op.operands])]
 | call c =>
  obtain ⟨cal,args,ats⟩:=c;have ea:args.toList.map (evD (keep S t))=args.toList.map (evD t):=em _ λx hx=>by
   simp only[Op.operands,Call.operands,Array.toList_append,List.mem_append];exact .inr hx
  cases cal with
  | value f =>
   have ef:=e f (by simp[Op.operands,Call.operands]);simp only[dop,ea,ef]
  | invoke r m=>rfl
  | builtin b =>
   have eone:∀x∈args.toList,evD (keep S t) x=evD t x:=λx hx=>e x (by simp only[Op.operands,Call.operands,Array.toList_append,List.mem_append];exact .inr hx);cases b with
   | len =>
    simp only[dop];split
    .rename_i hx;rw[eone _ (by rw[hx];simp)]
    .rfl
   | append =>
    simp only[dop];split
    .rename_i hx;rw[eone _ (by rw[hx];simp),eone _ (by rw[hx];simp)]
    .rfl
   | clear =>
    simp only[dop];split
    .rename_i hx;rw[eone _ (by rw[hx];simp)]
    .rfl
   | min=>simp only[dop,ea]
   | max=>simp only[dop,ea]
   | _=>rfl
 | _=>rfl
theorem zN{h':aB}{v:DV}(hS:S=o.looksAt l.toArray)(hn:(match o.dst with|some i=>Nat.blt i n|none=>true)=true)
 (hd:jP P T l.toArray [o] ⟨n,t,h⟩ (SD h' o.dst v)):jP P T l.toArray [o] ⟨n,keep S t,h⟩ (SD h' o.dst v):=by
 have hop:∀K,dop P T o.op (keep S t) h K=dop P T o.op t h K:=λK=>zHu λx hx i hi=>by
  subst hi;subst hS;simp only[Oper.looksAt,List.contains_eq_mem,List.mem_append,decide_eq_true_eq];exact .inl (List.mem_filterMap.2 ⟨_,hx,rfl⟩)
 have hk:∀d h0,SD h' o.dst v (DS.put ⟨n,keep S t,h⟩ o.dst d h0)=SD h' o.dst v (DS.put ⟨n,t,h⟩ o.dst d h0):=by
  intro d h0;cases hd':o.dst with
  | none=>rfl
  | some i =>
   rw[hd'] at hn;have hi:i<n:=Nat.blt_eq.mp hn;simp only[DS.put,if_pos hi,SD,res,cK,if_true]
 have hk':(λd h0=>jP P T l.toArray [] (DS.put ⟨n,keep S t,h⟩ o.dst d h0) (SD h' o.dst v))=λd h0=>jP P T l.toArray [] (DS.put ⟨n,t,h⟩ o.dst d h0) (SD h' o.dst v):=by
  funext d h0;exact hk d h0
 simp only[jP] at hd ⊢;cases hg:o.guard with
 | none =>
  simp only[hg] at hd ⊢;rw[hop];simp only[hk];exact hd
 | some g =>
  obtain ⟨j,b⟩:=g;simp only[hg] at hd ⊢;have hgv:((l.toArray[j]?).bind (·.dst)).map (λi=>look (keep S t) i)=((l.toArray[j]?).bind (·.dst)).map λi=>look t i:=by
   cases hy:(l.toArray[j]?).bind (·.dst) with
   | none=>rfl
   | some i =>
    simp only[Option.map_some];rw[NS];subst hS;simp only[Oper.looksAt,hg,hy,List.contains_eq_mem,List.mem_append,decide_eq_true_eq];exact .inr (by simp)
  rw[hgv];simp only[hop,hk];exact hd
theorem bK(v:DV)(ho:l[i]?=some o)(hn:(match o.dst with|some i=>Nat.blt i n|none=>true)=true)
 (h1:jP P T l.toArray [o] ⟨n,t,h⟩ (SD h o.dst v))(h3:vF P T l.toArray n [] K rest (SG t o.dst v) [h]):vF P T l.toArray n [] K (i::rest) t [h] :=
 zLp v ho (λ_ hS=>zN hS hn h1) h3
theorem cR(v:DV)(h':aB)(ho:l[i]?=some o)(hn:(match o.dst with|some i=>Nat.blt i n|none=>true)=true)(hc:chain.contains i=true)
 (h1:jP P T l.toArray [o] ⟨n,t,h⟩ (SD h' o.dst v))(h3:vF P T l.toArray n chain K rest (SG t o.dst v) (h' :: h::old)):vF P T l.toArray n chain K (i::rest) t (h::old) :=
 zPj v h' ho hc (λ_ hS=>zN hS hn h1) h3
theorem zNG(v:DV)(ho:l[i]?=some o)(hn:(match o.dst with|some i=>Nat.blt i n|none=>true)=true)(hc:chain.contains i=false)
 (h1:∀h0∈h::old.take (old.length-zN3 l.toArray chain i),jP P T l.toArray [o] ⟨n,t,h0⟩ (SD h0 o.dst v))(h3:vF P T l.toArray n chain K rest (SG t o.dst v) (h::old)):vF P T l.toArray n chain K (i::rest) t (h::old) :=
 zLq v ho hc (λ_ hS h0 hh=>zN hS hn (h1 h0 hh)) h3
theorem cQ(v:DV)(ho:l[i]?=some o)(hn:(match o.dst with|some i=>Nat.blt i n|none=>true)=true)(hc:chain.contains i=false)
 (h1:∀h0∈h::old,jP P T l.toArray [o] ⟨n,t,h0⟩ (SD h0 o.dst v))(h3:vF P T l.toArray n chain K rest (SG t o.dst v) (h::old)):vF P T l.toArray n chain K (i::rest) t (h::old) :=
 zNG v ho hn hc (λh0 hh=>h1 h0 (by
  rcases List.mem_cons.1 hh with e|e
  .exact e▸List.mem_cons_self
  .exact List.mem_cons_of_mem _ (List.mem_of_mem_take e))) h3
theorem bB: ∀h∈([]:List aB),p h:=λ_ h=>by cases h
theorem aR{l:List aB}(h1:p h)(h2:∀x∈l,p x):∀x∈h::l,p x:=λx hx=>by
 rcases List.mem_cons.1 hx with e|e
 .exact e▸h1
 .exact h2 x e
end
end Go.Dm
end
section
namespace Go.Dm
open Go
def zOq(a b:Nat):KV->Bool
 | .p _=>true
 | .ptr i _=>decide (i≠a) && decide (i≠b)
def zKx(a b:Nat):CV->Option CV
 | .p x=>some (.p x)
 | .own i off len=>if i=b then some (.own a off len) else if i=a then none else some (.own i off len)
 | .ptr i off=>if i=a then none else if i=b then none else some (.ptr i off)
 | .aptr i x y=>if i=a then none else if i=b then none else some (.aptr i x y)
 | .mp i=>if i=a then none else if i=b then none else some (.mp i)
 | .bs i n=>if i=a then none else if i=b then none else some (.bs i n)
 | .eptr cs=>some (.eptr cs)
 | .full k es=>some (.full k es)
 | .clo f cap=>if cap.all (zOq a b) then some (.clo f cap) else none
def vU(a b:Nat):List CV->Option (List CV)
 | []=>some []
 | c::cs=>match zKx a b c,vU a b cs with
  | some x,some xs=>some (x::xs)
  | _,_=>none
def zJk(a b:Nat):DV->DV
 | .jk=>.jk
 | .c x=>match zKx a b x with
  | some y=>.c y
  | none=>.jk
 | .agg xs=>match vU a b xs with
  | some ys=>.agg ys
  | none=>.jk
 | .tup []=>.tup []
 | .tup _=>.jk
def zKA(a b:Nat):Fr->Fr
 | []=>[]
 | p::t=>(p.1,zJk a b p.2)::zKA a b t
def renB(a b:Nat):DB->DB
 | .box cells=>match vU a b cells with
  | some c=>.box c
  | none=>.dead
 | x=>x
def zKz(a b:Nat):aB->aB
 | []=>[]
 | x::l=>renB a b x::zKz a b l
def zMi(a b:Nat)(h:aB):aB:=((zKz a b h).set a (h.getD b .dead)).set b .dead
theorem JI(a b:Nat)(i:Nat):∀t:Fr,look (zKA a b t) i=zJk a b (look t i)
 | []=>rfl
 | p::t=>by
  simp only[zKA,look];split
  .rfl
  .exact JI a b i t
theorem zFP(a b:Nat):∀(h:aB) (i:Nat),(zKz a b h)[i]?=(h[i]?).map (renB a b)
 | [],i=>by simp[zKz]
 | x::l,0=>rfl
 | x::l,i+1=>by simp only[zKz,List.getElem?_cons_succ];exact zFP a b l i
theorem KF(a b:Nat):∀h:aB,(zKz a b h).length=h.length
 | []=>rfl
 | x::l=>by simp[zKz,KF a b l]
theorem lS(a b:Nat)(h:aB):(zMi a b h).length=h.length:=by simp[zMi,KF]
theorem kW{a b:Nat}{x:DB}(h:(renB a b x).live=true):x.live=true/\(renB a b x).fix=x.fix:=by
 cases x with
 | box cells=>exact⟨rfl,by simp only[renB];split<;>rfl⟩
 | dead=>simp[renB,DB.live] at h
 | arr k es r=>exact⟨rfl,rfl⟩
 | mp es=>exact⟨rfl,rfl⟩
def Ctx.ren(X:Ctx)(a b:Nat):Ctx:=⟨X.w,X.S,λi=>if i=a then X.G b else X.G i,zMi a b X.h⟩
section
variable {X:Ctx}{a b:Nat}
variable {v:Value}{kb:Nat}{eb:List (List PV)}
theorem iD{h:aB}(hab:a≠b){i:Nat}{db:DB}(hd:(zMi a b h)[i]?=some db)(hl:db.live=true):(i=a/\h[b]?=some db/\a<h.length)∨(i≠a/\i≠b/\∃x,h[i]?=some x/\db=renB a b x):=by
 unfold zMi at hd;rcases bZ hd with⟨rfl,rfl,_⟩|⟨hne,hd⟩
 .simp[DB.live] at hl
 .rcases bZ hd with⟨rfl,rfl,hlt⟩|⟨hne2,hd⟩
  .left;refine⟨rfl,?_,by simpa[KF] using hlt⟩
   rw[List.getD_eq_getElem?_getD] at hl ⊢;cases hb:h[b]? with
   | none=>rw[hb] at hl;simp[DB.live] at hl
   | some x=>rfl
  .right;rw[zFP] at hd;obtain⟨x,h1,h2⟩:=Option.map_eq_some_iff.1 hd;exact⟨hne2,hne,x,h1,h2.symm⟩
theorem rB.ren(hab:a≠b){c:KV}(hc:zOq a b c=true)(h:rB X c v):rB (X.ren a b) c v:=by
 cases c<;>simp only[rB] at h ⊢
 case p=>exact h
 case ptr id off =>
  simp only[zOq,Bool.and_eq_true,decide_eq_true_eq] at hc;obtain⟨h1,h2,h3⟩:=h;refine⟨by simpa[Ctx.ren,lS] using h1,h2,λcells hd=>?_⟩
  rcases iD hab hd rfl with⟨h4,_⟩|⟨_,_,x,h5,h6⟩
  .exact absurd h4 hc.1
  .cases x with
   | box cells'=>simp only[Ctx.ren,if_neg hc.1];exact h3 _ h5
   | dead=>simp[renB] at h6
   | mp es=>simp[renB] at h6
   | arr k es r=>simp[renB] at h6
theorem fL.ren(hab:a≠b):∀{cs:List KV} {vs:List Value},cs.all (zOq a b)=true->fL X cs vs->fL (X.ren a b) cs vs
 | [],[],_,_=>True.intro
 | _::_,_::_,hc,h=>by
  simp only[List.all_cons,Bool.and_eq_true] at hc;exact⟨h.1.ren hab hc.1,fL.ren hab hc.2 h.2⟩
 | [],_::_,_,h=>h.elim
 | _::_,[],_,h=>h.elim
theorem bV.ren(hab:a≠b)(hb:X.h[b]?=some (.arr kb eb false))(ha:a<X.h.length){c c':CV}(hc:zKx a b c=some c')(h:bV X c v):bV (X.ren a b) c' v:=by
 cases c<;>simp only[zKx] at hc
 case p=>cases hc;exact h
 case own i off len =>
  split at hc
  .rename_i hi;subst hi;cases hc;simp only[bV] at h ⊢;obtain⟨h1,h2,h3⟩:=h;refine⟨by simpa[Ctx.ren,lS] using ha,h2,λk es ro hd=>?_⟩
   rcases iD hab hd rfl with⟨_,h5,_⟩|⟨h4,_⟩
   .have:=h3 _ _ _ h5;simp only[Ctx.ren,if_true];exact this
   .exact absurd rfl h4
  .rename_i hi;split at hc
   .cases hc
   .rename_i hia;cases hc;simp only[bV] at h ⊢;obtain⟨h1,h2,h3⟩:=h;refine⟨by simpa[Ctx.ren,lS] using h1,h2,λk es ro hd=>?_⟩
    rcases iD hab hd rfl with⟨h4,_⟩|⟨_,_,x,h5,h6⟩
    .exact absurd h4 hia
    .cases x with
     | arr k' es' r' =>
      simp only[renB] at h6;cases h6;have:=h3 _ _ _ h5;simp only[Ctx.ren,if_neg hia];exact this
     | dead=>simp[renB] at h6
     | mp es=>simp[renB] at h6
     | box cells=>simp only[renB] at h6;split at h6<;>cases h6
 case ptr i off =>
  split at hc
  .cases hc
  .rename_i hia;split at hc
   .cases hc
   .rename_i hib;cases hc;simp only[bV] at h ⊢;obtain⟨h1,h2,h3⟩:=h;refine⟨by simpa[Ctx.ren,lS] using h1,h2,λcells hd=>?_⟩
    rcases iD hab hd rfl with⟨h4,_⟩|⟨_,_,x,h5,h6⟩
    .exact absurd h4 hia
    .cases x with
     | box cells'=>simp only[Ctx.ren,if_neg hia];exact h3 _ h5
     | dead=>simp[renB] at h6
     | mp es=>simp[renB] at h6
     | arr k es r=>simp[renB] at h6
 case aptr i x y =>
  split at hc
  .cases hc
  .rename_i hia;split at hc
   .cases hc
   .rename_i hib;cases hc;simp only[bV] at h ⊢;obtain⟨h1,h2,h3⟩:=h;refine⟨by simpa[Ctx.ren,lS] using h1,h2,λk es ro hd=>?_⟩
    rcases iD hab hd rfl with⟨h4,_⟩|⟨_,_,q,h5,h6⟩
    .exact absurd h4 hia
    .cases q with
     | arr k' es' r' =>
      simp only[renB] at h6;cases h6;simp only[Ctx.ren,if_neg hia];exact h3 _ _ _ h5
     | dead=>simp[renB] at h6
     | mp es=>simp[renB] at h6
     | box cells=>simp only[renB] at h6;split at h6<;>cases h6
 case bs i n =>
  split at hc
  .cases hc
  .rename_i hia;split at hc
   .cases hc
   .rename_i hib;cases hc;simp only[bV] at h ⊢;obtain⟨h1,h2,h3⟩:=h;refine⟨by simpa[Ctx.ren,lS] using h1,h2,λcells hd=>?_⟩
    rcases iD hab hd rfl with⟨h4,_⟩|⟨_,_,x,h5,h6⟩
    .exact absurd h4 hia
    .cases x with
     | box cells'=>simp only[Ctx.ren,if_neg hia];exact h3 _ h5
     | dead=>simp[renB] at h6
     | mp es=>simp[renB] at h6
     | arr k es r=>simp[renB] at h6
 case mp i =>
  split at hc
  .cases hc
  .rename_i hia;split at hc
   .cases hc
   .rename_i hib;cases hc;simp only[bV] at h ⊢;obtain⟨h1,h2,h3⟩:=h;refine⟨by simpa[Ctx.ren,lS] using h1,h2,λes hd=>?_⟩
    rcases iD hab hd rfl with⟨h4,_⟩|⟨_,_,q,h5,h6⟩
    .exact absurd h4 hia
    .cases q with
     | mp es' =>
      simp only[renB] at h6;cases h6;simp only[Ctx.ren,if_neg hia];exact h3 _ h5
     | dead=>simp[renB] at h6
     | arr k es r=>simp[renB] at h6
     | box cells=>simp only[renB] at h6;split at h6<;>cases h6
 case eptr cs=>cases hc;exact h
 case full k es=>cases hc;exact h
 case clo f cap =>
  split at hc
  .rename_i hk;cases hc;obtain⟨vs,h1,h2⟩:=h;exact⟨vs,h1,h2.ren hab hk⟩
  .cases hc
theorem bC.ren(hab:a≠b)(hb:X.h[b]?=some (.arr kb eb false))(ha:a<X.h.length):∀{cs cs':List CV} {vs:List Value},vU a b cs=some cs'->bC X cs vs->bC (X.ren a b) cs' vs
 | [],_,[],hc,_=>by simp only[vU] at hc;cases hc;exact True.intro
 | c::cs,cs',v::vs,hc,h=>by
  simp only[vU] at hc;split at hc
  .rename_i x xs h1 h2;cases hc;exact⟨h.1.ren hab hb ha h1,bC.ren hab hb ha h2 h.2⟩
  .cases hc
 | [],_,_::_,_,h=>h.elim
 | _::_,_,[],_,h=>h.elim
theorem bA.ren(hab:a≠b)(hb:X.h[b]?=some (.arr kb eb false))(ha:a<X.h.length){d:DV}(h:bA X d v):bA (X.ren a b) (zJk a b d) v:=by
 cases d with
 | jk=>exact True.intro
 | c x =>
  simp only[zJk];split
  .rename_i y hy;exact bV.ren hab hb ha hy h
  .exact True.intro
 | agg xs =>
  simp only[zJk];split
  .rename_i ys hy;obtain⟨vs,h1,h2⟩:=h;exact⟨vs,h1,h2.ren hab hb ha hy⟩
  .exact True.intro
 | tup es =>
  cases es with
  | nil =>
   obtain⟨vs,h1,h2⟩:=h;cases vs with
   | nil=>exact⟨[],h1,True.intro⟩
   | cons _ _=>exact h2.elim
  | cons _ _=>exact True.intro
theorem cY.ren(hab:a≠b)(hb:X.h[b]?=some (.arr kb eb false))(ha:a<X.h.length){bl:Nat}:∀{cs cs':List CV} {off:Nat},vU a b cs=some cs'->cY X bl off cs->cY (X.ren a b) bl off cs'
 | [],_,_,hc,_=>by simp only[vU] at hc;cases hc;exact True.intro
 | c::cs,cs',off,hc,h=>by
  simp only[vU] at hc;split at hc
  .rename_i x xs h1 h2;cases hc;obtain⟨⟨v,h3,h4⟩,h5⟩:=h;exact⟨⟨v,h3,h4.ren hab hb ha h1⟩,cY.ren hab hb ha h2 h5⟩
  .cases hc
theorem QB: ∀{cs cs':List CV},vU a b cs=some cs'->cs'.length=cs.length
 | [],_,h=>by simp only[vU] at h;cases h;rfl
 | c::cs,cs',h=>by
  simp only[vU] at h;split at h
  .rename_i x xs h1 h2;cases h;simp[QB h2]
  .cases h
theorem HInv.ren(hi:HInv X)(hab:a≠b)(hb:X.h[b]?=some (.arr kb eb false))(ha:a<X.h.length):HInv (X.ren a b) where
 slt:=hi.slt
 blk:=λi db h=>by
  by_cases hl:db.live=true
  .rcases iD hab h hl with⟨rfl,h1,_⟩|⟨h1,h2,x,h3,rfl⟩
   .have:=hi.blk b db h1;rw[hb] at h1;cases h1;simp only[eC,Ctx.ren,if_true] at this ⊢;exact this
   .have:=hi.blk i x h3;cases x with
    | dead=>simp[renB,DB.live] at hl
    | arr k es r =>
     simp only[renB,eC,Ctx.ren,if_neg h1] at this ⊢;exact this
    | mp es =>
     simp only[renB,eC,Ctx.ren,if_neg h1] at this ⊢;exact this
    | box cells =>
     simp only[renB] at hl ⊢;split
     .rename_i c hc;simp only[eC] at this ⊢;obtain⟨g,arr,el,fz,g1,g2,g3,g4,g5⟩:=this;exact⟨g,arr,el,fz,by simp only[Ctx.ren,if_neg h1];exact g1,g2,by rw[QB hc];exact g3,g4,g5.ren hab hb ha hc⟩
     .trivial
  .cases db<;>simp_all[DB.live,eC]
 own:=λi db g h hl hg=>by
  rcases iD hab h hl with⟨rfl,h1,_⟩|⟨h1,h2,x,h3,rfl⟩
  .simp only[Ctx.ren,if_true] at hg;exact hi.own b db g h1 hl hg
  .simp only[Ctx.ren,if_neg h1] at hg;have hx:=kW hl;rw[hx.2];exact hi.own i x g h3 hx.1 hg
 inj:=λi d i' d' g g' h hl hf h' hl' hg hg' he=>by
  rcases iD hab h hl with⟨rfl,h1,_⟩|⟨h1,h2,x,h3,rfl⟩<;>rcases iD hab h' hl' with⟨rfl,h1',_⟩|⟨h1',h2',x',h3',rfl⟩
  .rfl
  .simp only[Ctx.ren,if_true] at hg;simp only[Ctx.ren,if_neg h1'] at hg';have hx':=kW hl';exact absurd (hi.inj b d i' x' g g' h1 hl hf h3' hx'.1 hg hg' he).symm h2'
  .simp only[Ctx.ren,if_neg h1] at hg;simp only[Ctx.ren,if_true] at hg';have hx:=kW hl;rw[hx.2] at hf;exact absurd (hi.inj i x b d' g g' h3 hx.1 hf h1' hl' hg hg' he) h2
  .simp only[Ctx.ren,if_neg h1] at hg;simp only[Ctx.ren,if_neg h1'] at hg';have hx:=kW hl;have hx':=kW hl';rw[hx.2] at hf;exact hi.inj i x i' x' g g' h3 hx.1 hf h3' hx'.1 hg hg' he
theorem cG.renB{d x:DB}(h:cG d x)(hl:(renB a b x).live=true):cG d (renB a b x):=by
 cases x with
 | dead=>simp[Dm.renB,DB.live] at hl
 | arr k es r=>exact h
 | mp es=>exact h
 | box cells =>
  cases d<;>simp only[cG] at h;simp only[Dm.renB] at hl ⊢;split
  .exact True.intro
  .rename_i hn;simp[hn,DB.live] at hl
theorem Step.ren{X0:Ctx}(hs:Step X0 X)(hab:a≠b)(h0:X0.h.length<=a)(h1:X0.h.length<=b):Step X0 (X.ren a b) where
 size:=hs.size
 os:=hs.os
 tape:=hs.tape
 output:=hs.output
 kept:=hs.kept
 len:=by simp only[Ctx.ren,lS];exact hs.len
 ids:=λi db' hlt h hl=>by
  rcases iD hab h hl with⟨rfl,_⟩|⟨g1,g2,x,g3,rfl⟩
  .omega
  .obtain⟨db,k1,k2,k3,k4⟩:=hs.ids i x hlt g3 (kW hl).1;exact⟨db,k1,k2.renB hl,by simp only[Ctx.ren,if_neg g1];exact k3,k4⟩
 frame:=hs.frame
 mine:=λi db g h hl hf hg=>by
  rcases iD hab h hl with⟨rfl,g1,_⟩|⟨g1,g2,x,g3,rfl⟩
  .simp only[Ctx.ren,if_true] at hg;exact hs.mine b db g g1 hl hf hg
  .simp only[Ctx.ren,if_neg g1] at hg;have hx:=kW hl;rw[hx.2] at hf;exact hs.mine i x g g3 hx.1 hf hg
 upper:=hs.upper
end
def DS.ren(s:DS)(a b:Nat):DS:=⟨s.n,zKA a b s.t,zMi a b s.h⟩
def xA(n0:Nat)(s s':DS):Prop:=DR n0 s s'∨∃a b kb eb,a≠b/\n0<=a/\n0<=b/\a<s.h.length/\s.h[b]?=some (.arr kb eb false)/\DR n0 (s.ren a b) s'
theorem xA.use{n0:Nat}{s s':DS}(h:xA n0 s s'){X0 X:Ctx}{a:Act}(hn:X0.h.length=n0)(hh:X.h=s.h)(hi:HInv X)(hs:Step X0 X)(ht:TInv X s a):∃X',X'.w=X.w/\X'.h=s'.h/\HInv X'/\Step X0 X'/\TInv X' s' a:=by
 rcases h with h|⟨p,q,kb,eb,hab,h0,h1,hp,hq,h⟩
 .exact h.use hn hh hi hs ht
 .rw[<- hh] at hp hq;refine h.use (X:=X.ren p q) hn ?_ (hi.ren hab hq hp) (hs.ren hab (by omega) (by omega)) ⟨ht.size,λi=>?_,ht.defs⟩
  .simp only[Ctx.ren,DS.ren,hh]
  .simp only[DS.ren];rw[JI];exact(ht.rel i).ren hab hq hp
section
variable {P:Program}{T:Tab}{X0:Ctx}{c:Code}{Q:Exit->DS->Prop}
variable {s:DS}{n0:Nat}
def wS{α:Type}(n0:Nat)(I:α->DS)(J:α->Prop)(μ:α->Nat)(x:α)(Q:Exit->DS->Prop):Exit->DS->Prop:=λe s'=>match e with
 | .normal=>∃y,J y/\μ y < μ x/\xA n0 s' (I y)
 | e=>Q e s'
theorem aY(hT:bF P T)(hm:P.follows .mixedOrders=true){α:Type}(I:α->DS)(J:α->Prop)(μ:α->Nat)(x0:α)(hJ:J x0)(hw:xA X0.h.length s (I x0))
 (h:∀x,J x->vc P T X0 c (I x) (wS X0.h.length I J μ x Q)):SWP P X0 (.loop c) s Q:=by
 intro gd X a hh hi hs ht;obtain⟨X',h1,h2,h3,h4,h5⟩:=hw.use rfl hh hi hs ht;rw[<- h1];refine wp_loop_ghost (λn a w=>∃x X,μ x=n/\J x/\X.w=w/\X.h=(I x).h/\HInv X/\Step X0 X/\TInv X (I x) a) (μ x0) ⟨x0,X',rfl,hJ,rfl,h2,h3,h4,h5⟩ ?_;rintro n a' w' ⟨x,Y,rfl,k1,rfl,k2,k3,k4,k5⟩;refine wp_mono (dX hT hm c (h x k1) gd Y a' k2 k3 k4 k5) λe a w hp=>?_;obtain⟨s',Z,p1,rfl,p3,p4,p5,p6⟩:=hp;cases e<;>simp only[Exit.then,wS] at p1 ⊢
 case normal =>
  obtain⟨y,q1,q2,q3⟩:=p1;obtain⟨Z',r1,r2,r3,r4,r5⟩:=q3.use rfl p3 p4 p5 p6;exact⟨μ y,q2,y,Z',rfl,q1,r1,r2,r3,r4,r5⟩
 all_goals exact⟨s',Z,p1,rfl,p3,p4,p5,p6⟩
theorem qr_e{α:Type}{I:α->DS}{J:α->Prop}{μ:α->Nat}{x:α}{id:Nat}:wS n0 I J μ x Q (.exit id) s=Q (.exit id) s:=nr rfl
theorem qr_r{α:Type}{I:α->DS}{J:α->Prop}{μ:α->Nat}{x:α}:wS n0 I J μ x Q .ret s=Q .ret s:=nr rfl
theorem gZ{α:Type}{I:α->DS}{J:α->Prop}{μ:α->Nat}{x:α}(y:α)(h1:J y)(h2:μ y < μ x)(h3:DR n0 s (I y)):wS n0 I J μ x Q .normal s:=⟨y,h1,h2,.inl h3⟩
theorem kV{α:Type}{I:α->DS}{J:α->Prop}{μ:α->Nat}{x:α}(y:α)(a b:Nat){kb:Nat}{eb:List (List PV)}(h1:J y)(h2:μ y < μ x)(hc:(!(Nat.beq a b) && Nat.ble n0 a && Nat.ble n0 b && Nat.blt a s.h.length)=true)
 (hb:s.h[b]?=some (.arr kb eb false))(h3:DR n0 (s.ren a b) (I y)):wS n0 I J μ x Q .normal s:=by
 simp only[Bool.and_eq_true,Bool.not_eq_true'] at hc;refine⟨y,h1,h2,.inr ⟨a,b,kb,eb,λe=>?_,Nat.le_of_ble_eq_true hc.1.1.2,Nat.le_of_ble_eq_true hc.1.2,Nat.blt_eq.mp hc.2,hb,h3⟩⟩;have:=hc.1.1.1;subst e;rw[Nat.beq_refl] at this;cases this
end
theorem zB4(n:Nat):((n:Int)+1).toNat=n+1:=by omega
attribute [go_sem] zB4
attribute [go_sem] qr_e qr_r DS.ren zKA zJk zKx vU renB zKz zMi zOq
theorem sp{A B:Prop}(hb:B)(h:A=B:=by (simp (maxSteps:=1000000) only[*,go_sem,Nat.reduceLT,Nat.reduceLeDiff,Nat.reduceEqDiff,↓reduceIte,Nat.reduceAdd,Nat.reduceSub,Nat.reduceMul,Int.reduceLT,Int.reduceLE,Int.reduceAdd,Int.reduceSub,Int.reduceMul,Int.reduceNeg,Int.reduceToNat,Int.reduceEq,Int.reduceBEq,Int.reduceBNe,Nat.reduceBEq,beq_self_eq_true,bne_self_eq_false'];rfl)):A:=h.mpr hb
theorem sq{A B:Prop}(hb:B)(h:A=B:=by (simp (maxSteps:=1000000) only[*,go_sem,Nat.reduceLT,Nat.reduceLeDiff,Nat.reduceEqDiff,↓reduceIte,Nat.reduceAdd,Nat.reduceSub,Nat.reduceMul,Int.reduceLT,Int.reduceLE,Int.reduceAdd,Int.reduceSub,Int.reduceMul,Int.reduceNeg,Int.reduceToNat,Int.reduceEq,Int.reduceBEq,Int.reduceBNe,Nat.reduceBEq,beq_self_eq_true,bne_self_eq_false',Bool.not_true,Bool.not_false];rfl)):A:=h.mpr hb
theorem uF{P:Program}{f:FuncId}{args:List DV}{h:aB}{r:DV}{K:DV->aB->Prop}(hc:aA P f args [] λd h'=>d=r/\h'=[])(hk:K r h)(hp:iH h args=some args:=by exact rfl)(hfl:MX r=true:=by exact rfl):aA P f args h K:=useF hc hp hfl hk
theorem uN{P:Program}{f:FuncId}{args:List DV}{h:aB}{r:DV}{K:DV->aB->Prop}(hc:aA P f args [] λd h'=>d=r/\h'=[])(hk:K r (rL h (lY args)))(hp:iH h args=some args:=by exact rfl)(hsh:∀n,r.sh n=r:=by exactλ_=>rfl):aA P f args h K:=useN hc hp hsh hk
theorem ai{A B:Prop}(hb:B)(ha:A:=by first|omega|decide|assumption|(simp only[decide_eq_true_eq,decide_eq_false_iff_not] at *;omega)):A/\B:=⟨ha,hb⟩
theorem wkK{n:Nat}{t t':Fr}(H:WkT n t t':=by (simp only[eB,gG];(repeat' (first|exact rfl|exact True.intro|refine And.intro ?_ ?_))<;>fail)):WkT n t t':=H
theorem wkS{n:Nat}{t t':Fr}(H:WkT n t t':=by simp[eB,gG,cK,bW,aT,iJ,bH,zKA,zJk,zKx,YE,HM,XY]):WkT n t t':=H
end Go.Dm
end
end
