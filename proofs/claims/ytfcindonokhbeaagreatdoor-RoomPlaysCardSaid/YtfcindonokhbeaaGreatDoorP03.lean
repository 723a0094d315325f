/- Part 4 of roomPlays_card. No condition. -/
import Derived.Test.YtfcindonokhbeaaGreatDoorP02
import Derived.LoopN
set_option linter.all false
set_option maxRecDepth 100000
set_option maxHeartbeats 0
section
section
namespace Go.Dm
open Go
section
variable {P:Program}{T:Tab}{n:Nat}{h:aF}{R:Bd}{s:DS}
def vc(P:Program)(T:Tab)(X0:Ctx):Code->DS->Be->Prop
 | .skip,s,Q=>Q .normal s
 | .ret,s,Q=>Q .ret s
 | .exit id,s,Q=>Q (.exit id) s
 | .seq x y,s,Q=>vc P T X0 x s λe g=>match e with
  | .normal=>vc P T X0 y g Q
  | e=>Q e g
 | .block id c,s,Q=>vc P T X0 c s (sN id Q)
 | .cond c x y,s,Q=>match evD s.t c with
  | .c (.p (.b t))=>(t=true->vc P T X0 x s Q)/\(t=false->vc P T X0 y s Q)
  | _=>False
 | .region _ ops false,s,Q=>lF P T ops ops.toList s (Q .normal)
 | c,s,Q=>SWP P X0 c s Q
theorem eN{X0:Ctx}(g:bQ P T)(u:P.follows .mixedOrders=true):∀(c:Code) {s:DS} {Q:Be},vc P T X0 c s Q->SWP P X0 c s Q
 | .skip,s,Q,h=>zNu h
 | .ret,s,Q,h=>zQN h
 | .exit id,s,Q,h=>zNr h
 | .seq x y,s,Q,h=>RZ (iP (eN g u x h) λe w q=>by
   cases e<;>simp only at q ⊢
   case normal=>exact eN g u y q
   all_goals exact q)
 | .block id c,s,Q,h=>ZO (iP (eN g u c h) λe w q=>by
   cases e<;>simp only[sN] at q ⊢<;>exact q)
 | .cond c x y,s,Q,h=>by
   simp only[vc] at h;split at h
   .rename_i t A;exact zNq A (λe=>eN g u x (h.1 e)) (λe=>eN g u y (h.2 e))
   .exact h.elim
 | .region id ops false,s,Q,h=>zET g h
 | .region id ops true,s,Q,h=>h
 | .loop c,s,Q,h=>h
 | .rangeFunc _ _ _ _,s,Q,h=>h
 | .scope _,s,Q,h=>h
 | .label _,s,Q,h=>h
 | .goto _,s,Q,h=>h
 | .refuse _,s,Q,h=>h
def zNX(n:Nat)(h:aF)(d:DV)(R:Bd):Prop :=
 match zJo h d with
 | some g=>((uM h (zQo d)).take n).all (cG n)=true/\R g ((uM h (zQo d)).take n)
 | none=>False
theorem zNX.fin{d:DV}(g:zNX n h d R):Fin n h d R:=by
 unfold zNX at g;split at g
 .rename_i q u;exact .inr (.inl ⟨q,u,g.1,g.2⟩)
 .exact g.elim
def zEZ(T:Tab)(n:Nat)(t:Fr)(h:aF)(R:Bd):List ResultVar->Bj->Prop
 | [],g=>zNX n h (NZ g.reverse) R
 | .tmp i::rs,g =>
  match look t i with
  | .c x=>zEZ T n t h R rs (.c x::g)
  | .agg q=>zEZ T n t h R rs (.agg q::g)
  | _=>False
 | .cell a ty::rs,g=>(T ty).size≠0/\yW (T ty) h (look t a) λd =>
  match d with
  | .c x=>zEZ T n t h R rs (.c x::g)
  | .agg q=>zEZ T n t h R rs (.agg q::g)
  | _=>False
def zBG(T:Tab)(n:Nat)(rs:List ResultVar)(R:Bd):Be
 | .normal,s=>zEZ T n s.t s.h R rs []
 | .ret,s=>zEZ T n s.t s.h R rs []
 | _,_=>False
theorem KA{T:TI}{a:DV}{K K':DV->Prop}(g:∀d,K d->K' d)(q:yW T h a K):yW T h a K':=by
 unfold yW at q ⊢;revert q;split
 .split
  .split
   .exactλh=>⟨h.1,g _ h.2⟩
   .split
    .exactλh=>g _ h
    .exactλh=>h
  .exactλh=>h
 .split
  .split
   .exactλh=>⟨h.1,h.2.1,g _ h.2.2⟩
   .exactλh=>⟨h.1,h.2.1,g _ h.2.2⟩
  .exactλh=>h
 .split
  .exactλh=>⟨h.1,g _ h.2⟩
  .split
   .exactλh=>g _ h
   .exactλh=>h
 .exactλh=>h
theorem pS: ∀(rs:List ResultVar) (es:Bj) {K:Bj->Prop},(∀l,zNX n s.h (NZ (es.reverse++l)) R->K l)->zEZ T n s.t s.h R rs es->rG T s rs K
 | [],es,K,g,h=>g [] (by simpa[zEZ] using h)
 | .tmp i::rs,es,K,g,h=>by
  simp only[zEZ,rG] at h ⊢;generalize look s.t i=d at h ⊢;cases d<;>simp only at h ⊢
  .exact pS rs _ (λl q=>g _ (by simpa using q)) h
  .exact pS rs _ (λl q=>g _ (by simpa using q)) h
 | .cell a ty::rs,es,K,g,h=>by
  simp only[zEZ,rG] at h ⊢;refine⟨h.1,KA (λd u=>?_) h.2⟩;cases d<;>simp only at u ⊢
  .exact pS rs _ (λl q=>g _ (by simpa using q)) u
  .exact pS rs _ (λl q=>g _ (by simpa using q)) u
theorem HM{rs:List ResultVar}{e:Exit}(h:zBG T n rs R e s):BK T n rs R e s:=by
 cases e<;>simp only[zBG,BK] at h ⊢
 case normal=>exact pS rs [] (λl g=>zNX.fin (by simpa using g)) h
 case ret=>exact pS rs [] (λl g=>zNX.fin (by simpa using g)) h
def mV: Nat->Bi->Fr
 | _,[]=>[]
 | i,d::l=>(i,d)::mV (i+1) l
theorem iR: ∀(l:Bi) (i:Nat),(l.zipIdx i).map (λp=>(p.2,p.1))=mV i l
 | [],_=>rfl
 | d::l,i=>by simp only[po,dt,mV,iR l]
theorem ent (u:bQ P T) (w:P.follows .mixedOrders=true) {f:FuncId} {g:Func} {c:Code} {args:Bi} (A:P.funcs[f]?=some g) (B:g.body=some c)
 (q:(Nat.ble args.length g.ntmps && !(g.name == "runtime.NumGoroutine"))=true)
 (C:∀X0:Ctx,X0.h=h->vc P T X0 c ⟨g.ntmps,mV 0 args,h⟩ (zBG T h.length g.results.toList R)):aA P f args h R:=by
 simp only[bn,dg] at q;refine hZ u A B (gk q.1) q.2 λX0 D=>?_;rw[iR];exact iP (eN u w c (C X0 D)) λe s=>HM
end
section
variable {P:Program}{T:Tab}{X0:Ctx}
variable {ops:Array Oper}{rest l:List Oper}{n id n0 j:Nat}{t:Fr}{dst:Option Tmp}{K:DS->Prop}{s:DS}{Q:Be}{x y c:Code}{rs:List ResultVar}{R:Bd}{op:Op}{pos:String}{after:Array Edge}{h:aF}{b:Bool}{o:Oper}{d:DV}
inductive Later (p:Prop):Prop where
 | mk (h:p):Later p
theorem xJ(p:Prop):Later p=p:=propext ⟨λ⟨h⟩=>h,.mk⟩
theorem nr{α:Sort _}{a b:α}(h:a=b):a=b:=h
def vsq(P:Program)(T:Tab)(X0:Ctx)(y:Code)(Q:Be):Be:=λe g=>match e with
 | .normal=>Later (vc P T X0 y g Q)
 | e=>Q e g
def zEY(P:Program)(T:Tab)(X0:Ctx)(d:DV)(x y:Code)(s:DS)(Q:Be):Prop :=
 match d with
 | .c (.p (.b t))=>(t=true->vc P T X0 x s Q)/\(t=false->vc P T X0 y s Q)
 | _=>False
def zSd(P:Program)(T:Tab)(ops:Array Oper)(rest:List Oper)(n:Nat)(t:Fr)(dst:Option Tmp)(K:DS->Prop):Bd:=λd h'=>Later (lF P T ops rest (DS.put ⟨n,t,h'⟩ dst d h') K)
theorem PY{P:Program}{T:Tab}:zSd P T ops rest n t dst K=λd h'=>lF P T ops rest (DS.put ⟨n,t,h'⟩ dst d h') K:=by
 funext d h';exact xJ _
def kP(K:Bd)(h:aF):PV->Prop:=λx=>K (.c (.p x)) h
def kD(K:Bd)(h:aF):DV->Prop:=λd=>K d h
def kB(K:PV->Prop):Bool->Prop:=λb=>K (.b b)
def kN(K:PV->Prop):Bool->Prop:=λb=>K (.b (!b))
def kU(K:Bd):aF->Prop:=λh=>K (.tup []) h
def zDO(t:Fr):List Oper->Nat->Option DV
 | [],_=>none
 | o::_,0=>o.dst.map λi=>look t i
 | _::l,j+1=>zDO t l j
def pR(P:Program)(T:Tab)(ops:Array Oper)(g:Option DV)(b:Bool)(op:Op)(t:Fr)(h:aF)(K:Bd):Prop :=
 match g with
 | some (.c (.p (.b v)))=>(v=b->dop P T op t h K)/\(v≠b->K (.tup []) h)
 | some (.tup [])=>K (.tup []) h
 | _=>False
def zBF(d:DV)(a b:DV)(h:aF)(K:Bd):Prop :=
 match d with
 | .c (.p (.b v))=>(v=true->K a h)/\(v=false->K b h)
 | _=>False
theorem zQ0: vc P T X0 .skip s Q=Q .normal s:=nr rfl
theorem zS1: vc P T X0 .ret s Q=Q .ret s:=nr rfl
theorem zQY: vc P T X0 (.exit id) s Q=Q (.exit id) s:=nr rfl
theorem zS2: vc P T X0 (.seq x y) s Q=vc P T X0 x s (vsq P T X0 y Q):=by
 have e:vsq P T X0 y Q=λe s'=>match e with
   | .normal=>vc P T X0 y s' Q
   | e=>Q e s':=by
  funext e s'
  cases e<;>first|rfl|exact xJ _
 rw[e];rfl
theorem zNE: vc P T X0 (.block id c) s Q=vc P T X0 c s (sN id Q):=nr rfl
theorem zQX{c:Operand}:vc P T X0 (.cond c x y) s Q=zEY P T X0 (evD s.t c) x y s Q:=nr rfl
theorem zJ3: vc P T X0 (.region id l.toArray false) s Q=lF P T l.toArray l s (Q .normal):=nr rfl
theorem zQZ: vc P T X0 (.loop c) s Q=SWP P X0 (.loop c) s Q:=nr rfl
theorem zUe: vsq P T X0 y Q .normal s=vc P T X0 y s Q:=xJ _
theorem zUf: vsq P T X0 y Q .ret s=Q .ret s:=nr rfl
theorem zUd: vsq P T X0 y Q (.exit id) s=Q (.exit id) s:=nr rfl
theorem qb_n: sN id Q .normal s=Q .normal s:=nr rfl
theorem qb_r: sN id Q .ret s=Q .ret s:=nr rfl
theorem qb_e{g:Nat}:sN id Q (.exit g) s=if g=id then Q .normal s else Q (.exit g) s:=nr rfl
theorem ql_e{α:Type}{I:α->DS}{J:α->Prop}{μ:α->Nat}{x:α}:zSA n0 I J μ x Q (.exit id) s=Q (.exit id) s:=nr rfl
theorem ql_r{α:Type}{I:α->DS}{J:α->Prop}{μ:α->Nat}{x:α}:zSA n0 I J μ x Q .ret s=Q .ret s:=nr rfl
theorem zQ4: zBG T n rs R .normal s=zEZ T n s.t s.h R rs []:=nr rfl
theorem zQ5: zBG T n rs R .ret s=zEZ T n s.t s.h R rs []:=nr rfl
theorem zQ2: zEY P T X0 (.c (.p (.b true))) x y s Q=vc P T X0 x s Q:=by simp[zEY]
theorem zQ1: zEY P T X0 (.c (.p (.b false))) x y s Q=vc P T X0 y s Q:=by simp[zEY]
theorem aH{t:Bool}(h1:t=true->vc P T X0 x s Q)(g:t=false->vc P T X0 y s Q):zEY P T X0 (.c (.p (.b t))) x y s Q:=⟨h1,g⟩
theorem zS7: lF P T ops [] s K=K s:=nr rfl
theorem zS8{ty:TypeId}:
  lF P T ops ({ dst:=dst,op:=op,type:=ty,pos:=pos,after:=after,guard:=none }::rest) ⟨n,t,h⟩ K=dop P T op t h (zSd P T ops rest n t dst K):=by rw[PY];rfl
theorem zNG{ty:TypeId}:
  lF P T l.toArray ({ dst:=dst,op:=op,type:=ty,pos:=pos,after:=after,guard:=some (j,b) }::rest) ⟨n,t,h⟩ K=pR P T l.toArray (zDO t l j) b op t h (zSd P T l.toArray rest n t dst K):=by
 have e:∀(l:List Oper) (j:Nat),((l[j]?).bind (·.dst)).map (λi=>look t i)=zDO t l j:=by
  intro l
  induction l with
  | nil=>intro j;rfl
  | cons o l g=>intro j;cases j with
   | zero=>rfl
   | succ j=>exact g j
 rw[PY];simp only[lF,oq,e];rfl
theorem zPB: zDO t (o::l) 0=o.dst.map λi=>look t i:=nr rfl
theorem zPA: zDO t (o::l) (j+1)=zDO t l j:=nr rfl
theorem zHU{i:Nat}(hi:i<n):zSd P T ops rest n t (some i) K d h=lF P T ops rest ⟨n,(i,d)::t,h⟩ K:=by
 rw[PY];simp only[DS.put];rw[aw hi]
theorem zHT: zSd P T ops rest n t none K d h=lF P T ops rest ⟨n,t,h⟩ K:=by rw[PY];rfl
theorem zTJ{K:Bd}{x:PV}:kP K h x=K (.c (.p x)) h:=nr rfl
theorem zTH{K:Bd}:kD K h d=K d h:=nr rfl
theorem zTG{K:PV->Prop}:kB K b=K (.b b):=nr rfl
theorem zTI{K:PV->Prop}:kN K b=K (.b (!b)):=nr rfl
theorem zTK{K:Bd}:kU K h=K (.tup []) h:=nr rfl
section g
variable {ops:Array Oper}{op:Op}{t:Fr}{h:aF}{K:Bd}
variable {b v:Bool}{a x y c m i:Operand}{l:List Operand}{z:List PV}{parts:List (Nat × DV)}{n e len id off f ty:Nat}{o:BinOp}{K:Bd}{k:TI}{h:aF}{lo hi:Option Operand}{ats:Array TypeId}
theorem zUb: pR P T ops (some (.c (.p (.b true)))) true op t h K=dop P T op t h K:=by simp[pR]
theorem zT8: pR P T ops (some (.c (.p (.b false)))) false op t h K=dop P T op t h K:=by simp[pR]
theorem zUa: pR P T ops (some (.c (.p (.b true)))) false op t h K=K (.tup []) h:=by simp[pR]
theorem zT9: pR P T ops (some (.c (.p (.b false)))) true op t h K=K (.tup []) h:=by simp[pR]
theorem zS5: pR P T ops (some (.tup [])) b op t h K=K (.tup []) h:=nr rfl
theorem aY(h1:v=true->pR P T ops (some (.c (.p (.b v)))) b op t h K)(g:v=false->pR P T ops (some (.c (.p (.b v)))) b op t h K):pR P T ops (some (.c (.p (.b v)))) b op t h K:=by
 cases v
 .exact g rfl
 .exact h1 rfl
theorem vp_t{a b:DV}:zBF (.c (.p (.b true))) a b h K=K a h:=by simp[zBF]
theorem vp_f{a b:DV}:zBF (.c (.p (.b false))) a b h K=K b h:=by simp[zBF]
section
variable {P:Program}{T:Tab}{X0:Ctx}
variable {ops:Array Oper}{op:Op}{t:Fr}{h:aF}{K:Bd}
end
theorem vp_b{x y:Bool}:zBF (.c (.p (.b v))) (.c (.p (.b x))) (.c (.p (.b y))) h K=K (.c (.p (.b (bif v then x else y)))) h:=by cases v<;>simp[zBF]
theorem zPa: dop P T (.move x) t h K=K (evD t x) h:=nr rfl
theorem zGg: dop P T (.assign x) t h K=K (evD t x) h:=nr rfl
theorem zPc{b:Operand}:dop P T (.pick c a b) t h K=zBF (evD t c) (evD t a) (evD t b) h K:=nr rfl
def zJ4(k:TK)(z:List PV)(h:aF)(K:Bd):Prop :=
 match k with
 | .no=>False
 | _=>K (.c (.ptr h.length 0)) (h++[.box (z.map .p)])
theorem zKT{ty:TypeId}:dop P T (.alloc ty) t h K=zJ4 (T ty).k (T ty).zero h K:=nr rfl
def zUm(o:Option Bf)(h:aF)(K:Bd):Prop :=
 match o with
 | some g=>K (.c (.ptr h.length 0)) (h++[.box g])
 | none=>False
theorem zRG{ty:TypeId}:dop P T (.box ty x) t h K=zUm (oR (evD t x)) h K:=nr rfl
def zRe(t:Fr):List (Nat × Operand)->List (Nat × DV)
 | []=>[]
 | p::l=>(p.1,evD t p.2)::zRe t l
theorem zAH(t:Fr):∀l:List (Nat × Operand),(l.map λp=>(p.1,evD t p.2))=zRe t l
 | []=>rfl
 | p::l=>by simp only[dt,zRe,zAH t l]
def evL(t:Fr):List Operand->Bi
 | []=>[]
 | x::l=>evD t x::evL t l
theorem VP(t:Fr):∀l:List Operand,l.map (evD t)=evL t l
 | []=>rfl
 | x::l=>by simp only[dt,evL,VP t l]
def zJ2(T:Tab)(k:TK)(z:List PV)(parts:List (Nat × DV))(h:aF)(K:Bd):Prop :=
 match k with
 | .struct g=>(∀f∈g,(T f.1).size≠0) /\
  match BJ T (λi=>(g[i]?).map λf=>(f.2,(T f.1).size)) (z.map .p) parts with
  | some cells=>K (.agg cells) h
  | none=>False
 | .array _ e=>(T e).size≠0 /\
  match BJ T (λi=>some (i*(T e).size,(T e).size)) (z.map .p) parts with
  | some cells=>K (.agg cells) h
  | none=>False
 | _=>False
theorem zKU{ty:TypeId}{l:List (Nat × Operand)}:dop P T (.build ty l.toArray) t h K=zJ2 T (T ty).k (T ty).zero (zRe t l) h K:=by
 rw[<- zAH];rfl
def ZS(T:Tab)(g:List (Nat × Nat)):Bf->List (Nat × DV)->Option Bf
 | cells,[]=>some cells
 | cells,(i,d)::rest =>
  match g[i]?,oR d with
  | some (q,off),some u=>if u.length=(T q).size/\off+(T q).size<=cells.length then ZS T g (splice cells off u) rest else none
  | _,_=>none
theorem ZT(T:Tab)(g:List (Nat × Nat)):∀(parts:List (Nat × DV)) (cells:Bf),BJ T (λi=>(g[i]?).map λf=>(f.2,(T f.1).size)) cells parts=ZS T g cells parts
 | [],_=>rfl
 | (i,d)::rest,cells=>by
  simp only[BJ,ZS];cases g[i]? with
  | none=>rfl
  | some f =>
   cases oR d with
   | none=>rfl
   | some q=>simp only[nf];rw[ZT T g rest _]
def ZQ(g:Nat):Bf->List (Nat × DV)->Option Bf
 | cells,[]=>some cells
 | cells,(i,d)::rest =>
  match oR d with
  | some q=>if q.length=g/\i*g+g<=cells.length then ZQ g (splice cells (i*g) q) rest else none
  | _=>none
theorem ZR(T:Tab)(g:Nat):∀(parts:List (Nat × DV)) (cells:Bf),BJ T (λi=>some (i*g,g)) cells parts=ZQ g cells parts
 | [],_=>rfl
 | (i,d)::rest,cells=>by
  simp only[BJ,ZQ];cases oR d with
  | none=>rfl
  | some q=>simp only;rw[ZR T g rest _]
def zUc(o:Option Bf)(h:aF)(K:Bd):Prop :=
 match o with
 | some cells=>K (.agg cells) h
 | none=>False
theorem zJ5{cells:Bf}:zUc (some cells) h K=K (.agg cells) h:=nr rfl
theorem zJ1{g:List (Nat × Nat)}:zJ2 T (.struct g) z parts h K=((∀f∈g,(T f.1).size≠0)/\zUc (ZS T g (z.map .p) parts) h K):=by
 rw[<- ZT];rfl
theorem zND: zJ2 T (.array n e) z parts h K=((T e).size≠0/\zUc (ZQ (T e).size (z.map .p) parts) h K):=by
 rw[<- ZR T];rfl
theorem zGh{ty:TypeId}{l:List (Nat × Operand)}:dop P T (.buildSlice ty len l.toArray) t h K=DT T ty len (zRe t l) h K:=by
 rw[<- zAH];rfl
theorem zO8{ty:TypeId}:dop P T (.load ty a) t h K=((T ty).size≠0/\yW (T ty) h (evD t a) (kD K h)):=nr rfl
theorem zKY{ty:TypeId}{ok:Bool}:dop P T (.lookup ty m x ok) t h K=zF7 T (T ty).k h (evD t m) (evD t x) ok (kD K h):=nr rfl
theorem zPd{ty:TypeId}{v:Operand}:dop P T (.mapUpdate ty m x v) t h K=zGc T (T ty).k h (evD t m) (evD t x) (evD t v) (kU K):=nr rfl
theorem zKZ{ty:TypeId}:dop P T (.makeMap ty none) t h K=TX (T ty).k h K:=nr rfl
theorem zK2{ty:TypeId}:dop P T (.store ty a x) t h K=VE (T ty) h (evD t a) (evD t x) (kU K):=nr rfl
def zS6(d:DV)(h:aF)(K:Bd):Prop :=
 match d with
 | .c (.ptr id off) =>
  match h[id]? with
  | some (.box _)=>K (.c (.ptr id off)) h
  | _=>False
 | .c (.eptr cs)=>K (.c (.eptr cs)) h
 | .c (.clo f g)=>K (.c (.clo f g)) h
 | _=>False
theorem zPb: dop P T (.nilCheck x) t h K=zS6 (evD t x) h K:=nr rfl
def zE6(P:Program)(ty:TypeId)(k:TI)(h:aF)(o:BinOp)(x y:DV)(K:Bd):Prop :=
 match zSx o x y with
 | some (id,b)=>zRj k.k (h[id]?) b h K
 | none=>TG o k x y (kP K h)∨zRu P o ty x y (kP K h)
theorem zRF{ty g:TypeId}:dop P T (.binOp o ty x y g) t h K=zE6 P ty (T ty) h o (evD t x) (evD t y) K:=nr rfl
theorem zN3{ty:TypeId}{x:CV}{y:DV}{K:PV->Prop}:zRu P o ty (.c x) y K=False:=by
 refine eq_false ?_;rintro⟨g,q,b,h,_⟩;cases h
theorem SC{ty:TypeId}{q u:Bf}(ps g:List PV)(b:Bool)(w:q=ps.map .p)(A:u=g.map .p)(f1:ps.all (λx=>(jM x).isSome)=true)(f2:g.all (λx=>(jM x).isSome)=true)(B:zE9 P ty ps g b)(C:(o=.eql/\K (.c (.p (.b b))) h)∨(o=.neq/\K (.c (.p (.b (!b)))) h)):zE6 P ty k h o (.agg q) (.agg u) K:=by
 subst w A;have:zSx o (.agg (ps.map .p)) (.agg (g.map .p))=none:=by cases o<;>rfl
 unfold zE6;rw[this];exact .inr ⟨ps,g,b,rfl,rfl,f1,f2,B,C⟩
theorem zSZ{ty:TypeId}{x y:PV}:zE6 P ty k h o (.c (.p x)) (.c (.p y)) K=TG o k (.c (.p x)) (.c (.p y)) (kP K h):=by
 have e:zE6 P ty k h o (.c (.p x)) (.c (.p y)) K=(TG o k (.c (.p x)) (.c (.p y)) (kP K h)∨zRu P o ty (.c (.p x)) (.c (.p y)) (kP K h)):=by cases o<;>exact nr rfl
 rw[e,zN3,or_false]
theorem zSY{ty:TypeId}{y:PV}:zE6 P ty k h o (.c (.own id off len)) (.c (.p y)) K=TG o k (.c (.own id off len)) (.c (.p y)) (kP K h):=by
 have e:zE6 P ty k h o (.c (.own id off len)) (.c (.p y)) K=(TG o k (.c (.own id off len)) (.c (.p y)) (kP K h)∨zRu P o ty (.c (.own id off len)) (.c (.p y)) (kP K h)):=by cases o<;>exact nr rfl
 rw[e,zN3,or_false]
theorem zSX{ty:TypeId}:zE6 P ty k h .eql (.c (.ptr id off)) (.c (.p (.o (.pointer none)))) K=zRj k.k (h[id]?) false h K:=nr rfl
theorem zS0{ty:TypeId}:zE6 P ty k h .neq (.c (.ptr id off)) (.c (.p (.o (.pointer none)))) K=zRj k.k (h[id]?) true h K:=nr rfl
theorem zS9{c:Bf}:zRj (.ptr e) (some (.box c)) b h K=K (.c (.p (.b b))) h:=nr rfl
theorem zNh{j a b:Nat}:zCQ (.c (.own j a b)) id=(j==id):=nr rfl
theorem zNi{x:PV}:zCQ (.c (.p x)) id=false:=nr rfl
attribute [go_sem] zSZ zSY zSX zS0 zS9 zNh zNi
theorem zTv{o:UnOp}{ty:TypeId}:dop P T (.unOp o ty x) t h K=dun o (evD t x) (kP K h):=nr rfl
theorem zO4{src dst:TypeId}:dop P T (.convert src dst x) t h K=zFV T src dst (evD t x) h K:=nr rfl
def NJ(t:Fr)(o:Option Operand)(d:Int):Option Int :=
 match o with
 | none=>some d
 | some x=>match evD t x with
  | .c (.p (.i _ n))=>some n
  | _=>none
def zKa(T:Tab)(k:TK)(h:aF)(x:DV)(lo hi:Int->Option Int)(K:Bd):Prop :=
 match k,x with
 | .str,.c (.p (.s l))=>match lo 0,hi l.length with
  | some a,some b=>0<=a/\a<=b/\b<=l.length/\K (.c (.p (.s ((l.take b.toNat).drop a.toNat)))) h
  | _,_=>False
 | .slice e,.c (.p (.sl k g))=>match lo 0,hi g.length with
  | some a,some b=>(T e).size≠0/\(T e).size=k/\0<=a/\a<=b/\b<=g.length/\K (.c (.p (.sl k ((g.take b.toNat).drop a.toNat)))) h
  | _,_=>False
 | .slice e,.c (.p .nil)=>match lo 0,hi 0 with
  | some a,some b=>(T e).size≠0/\0<=a/\a<=b/\b<=0/\K (.c (.p .nil)) h
  | _,_=>False
 | .slice e,.c (.own id off len) =>
  match h[id]? with
  | some (.arr k _ _)=>match lo 0,hi len with
   | some a,some b=>(T e).size≠0/\(T e).size=k/\0<=a/\a<=b/\b<=len/\K (.c (.own id (off+a.toNat) (b.toNat-a.toNat))) h
   | _,_=>False
  | _=>False
 | _,_=>False
theorem zN1(t:Fr)(o:Option Operand)(d:Int)(K:Int->Prop):bnd t o d K=match NJ t o d with|some n=>K n|none=>False:=by
 cases o with
 | none=>rfl
 | some x =>
  simp only[bnd,NJ];generalize evD t x=e;cases e with
  | c c=>cases c with
   | p p=>cases p<;>rfl
   | _=>rfl
  | _=>rfl
def zQ3(T:Tab)(k:TK)(h:aF)(x:DV)(lo hi q:Int->Option Int)(K:Bd):Prop :=
 match k,x with
 | .slice e,.c (.p (.sl k g))=>match lo 0,hi (-1),q (-1) with
  | some a,some b,some c=>(T e).size≠0/\(T e).size=k/\a=0/\b=c/\0<=b/\b<=g.length/\K (.c (.full k (g.take b.toNat))) h
  | _,_,_=>False
 | _,_=>False
theorem zO5{ty:TypeId}{g:Operand}:dop P T (.slice ty x lo hi (some g)) t h K=zQ3 T (T ty).k h (evD t x) (NJ t lo) (NJ t hi) (NJ t (some g)) K:=by
 show zFY T ty (evD t x) (bnd t lo) (bnd t hi) (bnd t (some g)) (λd=>K d h)=_;unfold zFY zQ3;simp only[zN1];generalize (T ty).k=k;generalize evD t x=d;cases k with
 | slice e=>cases d with
  | c c=>cases c with
   | p p=>cases p with
    | sl k q =>
     simp only;cases NJ t lo 0<;>simp only[jm];cases NJ t hi (-1)<;>simp only[jm];cases NJ t (some g) (-1)<;>simp only[jm]
    | _=>rfl
   | _=>rfl
  | _=>rfl
 | _=>rfl
theorem zK1{ty:TypeId}:dop P T (.slice ty x lo hi none) t h K=zKa T (T ty).k h (evD t x) (NJ t lo) (NJ t hi) K:=by
 show VD T ty h (evD t x) (bnd t lo) (bnd t hi) (λd=>K d h)=_;unfold VD zKa;simp only[zN1];generalize (T ty).k=k;generalize evD t x=d;cases k with
 | str=>cases d with
  | c c=>cases c with
   | p p=>cases p with
    | s l =>
     simp only;cases NJ t lo 0<;>simp only;cases NJ t hi (l.length:Int)<;>rfl
    | _=>rfl
   | _=>rfl
  | _=>rfl
 | slice e=>cases d with
  | c c=>cases c with
   | p p=>cases p with
    | nil =>
     simp only;cases NJ t lo 0<;>simp only[jm];cases NJ t hi 0<;>simp only[jm]
    | sl k g =>
     simp only;cases NJ t lo 0<;>simp only[jm];cases NJ t hi (g.length:Int)<;>simp only[jm]
    | _=>rfl
   | own id off len =>
    simp only;cases h[id]? with
    | none=>rfl
    | some b=>cases b with
     | arr k g r =>
      simp only;cases NJ t lo 0<;>simp only[jm];cases NJ t hi (len:Int)<;>simp only[jm]
     | _=>rfl
   | _=>rfl
  | _=>rfl
 | _=>rfl
theorem zGi{s:Nat}:dop P T (.fieldAddr s x f) t h K=TM T s h (evD t x) f (kD K h):=nr rfl
def zOz(T:Tab)(k:TK)(x:DV)(f:Nat)(K:DV->Prop):Prop :=
 match k,x with
 | .struct g,.agg cells =>
  match g[f]? with
  | some (q,off)=>zGn (T q) cells off K
  | none=>False
 | _,_=>False
theorem zKW: dop P T (.field ty x f) t h K=zOz T (T ty).k (evD t x) f (kD K h):=nr rfl
theorem zGj: dop P T (.indexAddr ty x i) t h K=DY T ty h (evD t x) (evD t i) (kD K h):=nr rfl
theorem zKX: dop P T (.index ty x i) t h K=TU T ty (evD t x) (evD t i) (kD K h):=nr rfl
def zCW(d:DV)(n:Nat)(h:aF)(K:Bd):Prop :=
 match d with
 | .tup g =>
  match g[n]? with
  | some e=>K e.toDV h
  | none=>False
 | _=>False
theorem zDt: dop P T (.extract x n) t h K=zCW (evD t x) n h K:=nr rfl
def zT7(f:FuncId)(c:Option (List KV))(h:aF)(K:Bd):Prop :=
 match c with
 | some g=>K (.c (.clo f g)) h
 | none=>False
theorem zO6{f:FuncId}:dop P T (.makeFunc (.func f) #[] l.toArray) t h K=zT7 f (NL (evL t l)) h K:=by
 rw[<- VP];simp only[dop,zT7];cases NL (List.map (evD t) l)<;>rfl
theorem EA{l:Operand}:dop P T (.makeSlice ty l c) t h K=zF9 T ty (evD t l) (evD t c) h K:=nr rfl
def zS4(P:Program)(d:DV)(args:Bi)(h:aF)(K:Bd):Prop :=
 match d with
 | .c (.clo g q)=>aA P g (args++q.map KV.toDV) h K
 | _=>False
theorem zO3{f:Operand}:dop P T (.call { callee:=.value f,args:=l.toArray,argTypes:=ats }) t h K=zS4 P (evD t f) (evL t l) h K:=by
 rw[<- VP];simp only[dop];rfl
theorem zRJ{g:List Nat}:dop P T (.call { callee:=.builtin .len,args:=[x].toArray,argTypes:=(ty::g).toArray }) t h K=dlen (T ty) h (evD t x) (kD K h):=by
 simp only[dop];rfl
theorem zGf{g:Nat}:dop P T (.call { callee:=.builtin .append,args:=[x,y].toArray,argTypes:=[ty,g].toArray }) t h K=DQ T ty g (evD t x) (evD t y) h K:=by
 simp only[dop]
theorem zKV: dop P T (.call { callee:=.builtin .clear,args:=[x].toArray,argTypes:=[ty].toArray }) t h K=TL T ty (evD t x) h K:=by
 simp only[dop]
theorem zRL: dop P T (.call { callee:=.builtin .min,args:=l.toArray,argTypes:=ats }) t h K=dmm true (evL t l) (kD K h):=by
 rw[<- VP];simp only[dop];rfl
theorem zRK: dop P T (.call { callee:=.builtin .max,args:=l.toArray,argTypes:=ats }) t h K=dmm false (evL t l) (kD K h):=by
 rw[<- VP];simp only[dop];rfl
end g
section b
variable {k:IntKind}{a b:Int}{x y:Ba}{K:PV->Prop}{T0:TI}
variable {op:BinOp}{k':IntKind}
theorem db_i(h1:op≠.shl)(g:op≠.shr):TG op T0 (.c (.p (.i k a))) (.c (.p (.i k' b))) K=(k=k'/\zRC op k a b K):=by
 cases op<;>first|rfl|exact absurd rfl h1|exact absurd rfl g
theorem zRw: TG .shl T0 (.c (.p (.i k a))) (.c (.p (.i k' b))) K=(0<=b/\K (.i k (k.wrap (a*2 ^ (min b.toNat k.bits))))):=nr rfl
theorem zRx: TG .shr T0 (.c (.p (.i k a))) (.c (.p (.i k' b))) K=(0<=b/\K (.i k (a.fdiv (2 ^ (min b.toNat k.bits))))):=nr rfl
theorem db_s: TG op T0 (.c (.p (.s x))) (.c (.p (.s y))) K=zRR op x y K:=nr rfl
theorem db_f{x y:Nat}:TG op T0 (.c (.p (.f x))) (.c (.p (.f y))) K=zRy op x y K:=nr rfl
def vbb(k:TK)(op:BinOp)(a b:Bool)(K:PV->Prop):Prop :=
 match k,op with
 | .bool,.eql=>K (.b (a==b))
 | .bool,.neq=>K (.b (!(a==b)))
 | _,_=>False
theorem db_b{x y:Bool}:TG op T0 (.c (.p (.b x))) (.c (.p (.b y))) K=vbb T0.k op x y K:=nr rfl
def vnl(k:TK)(op:BinOp)(x:PV)(K:PV->Prop):Prop :=
 match k,op with
 | .slice _,.eql=>zIo x (kB K)
 | .slice _,.neq=>zIo x (kN K)
 | _,_=>False
theorem db_n{x:PV}:TG op T0 (.c (.p x)) (.c (.p .nil)) K=vnl T0.k op x K:=by
 cases x<;>rfl
end b
end
def oF{n:Int}(h1:0<=n)(g:n<=18446744073709551615):IntKind.u64.wrap n=n:=by
 simp only[IntKind.wrap,IntKind.bits,IntKind.signed,dp,av,ax];omega
def zKl{n:Int}(h1:0<=n)(g:n<=255):IntKind.u8.wrap n=n:=by
 simp only[IntKind.wrap,IntKind.bits,IntKind.signed,dp,av,ax];omega
def zNT(b:UInt8):IntKind.u8.wrap (b.toNat:Int)=b.toNat:=zKl qd (by have:=b.toNat_lt;omega)
def zKj(b:UInt8):IntKind.i64.wrap (b.toNat:Int)=b.toNat:=wrap_i64 qd (by have:=b.toNat_lt;omega)
def zKk(b:UInt8):IntKind.u64.wrap (b.toNat:Int)=b.toNat:=oF qd (by have:=b.toNat_lt;omega)
def HS(h':aF)(dst:Option Tmp)(v:DV):DS->Prop:=λg=>g.h=h'/\res g dst=v
section
variable {P:Program}{T:Tab}{X0:Ctx}
variable {h h':aF}{i n id:Nat}{v:DV}{t:Fr}{l:List Oper}{rest chain:List Nat}{K:DS->Prop}{o:Oper}{old:List aF}{Q:Be}
theorem zHN: HS h' (some i) v ⟨n,t,h⟩=(h=h'/\look t i=v):=nr rfl
theorem zHM: HS h' none v ⟨n,t,h⟩=(h=h'/\.tup []=v):=nr rfl
theorem WT{S:List Nat}{j:Nat}(h:S.contains j=true):look (rM S t) j=look t j:=by rw[pA,aw h]
theorem zPi(v:DV)(g:l[i]?=some o)
 (h1:∀S:List Nat,S=o.looksAt l.toArray->lF P T l.toArray [o] ⟨n,rM S t,h⟩ (HS h o.dst v))(q:rW P T l.toArray n [] K rest (JK t o.dst v) [h]):rW P T l.toArray n [] K (i::rest) t [h] :=
 VC v (by simpa using g) rfl (h1 _ rfl) ql q
theorem zPj(v:DV)(q:l[i]?=some o)(u:chain.contains i=false)
 (h1:∀S:List Nat,S=o.looksAt l.toArray->∀g∈h::old.take (old.length-zMk l.toArray chain i),lF P T l.toArray [o] ⟨n,rM S t,g⟩ (HS g o.dst v))(w:rW P T l.toArray n chain K rest (JK t o.dst v) (h::old)):
  rW P T l.toArray n chain K (i::rest) t (h::old) :=
 VC v (by simpa using q) u (h1 _ rfl h ql) (λg A=>h1 _ rfl g (by simp[A])) w
theorem zTw(v:DV)(h':aF)(g:l[i]?=some o)(q:chain.contains i=true)
 (h1:∀S:List Nat,S=o.looksAt l.toArray->lF P T l.toArray [o] ⟨n,rM S t,h⟩ (HS h' o.dst v))(u:rW P T l.toArray n chain K rest (JK t o.dst v) (h' :: h::old)):
  rW P T l.toArray n chain K (i::rest) t (h::old) :=
 zPk v h' (by simpa using g) q (h1 _ rfl) u
theorem aM(g:K ⟨n,t,h⟩):rW P T l.toArray n chain K [] t (h::old):=zK6 g
theorem zNF{ops:Array Oper}{s:DS}:vc P T X0 (.region id ops true) s Q=SWP P X0 (.region id ops true) s Q:=nr rfl
theorem aK(q:bQ P T)(u:P.follows .mixedOrders=true)(chain g:List Nat)(w:vA l.toArray n chain g=true)(A:rW P T l.toArray n chain (Q .normal) g t [h]):
  SWP P X0 (.region id l.toArray true) ⟨n,t,h⟩ Q:=zJI q u chain g w A
theorem aD: JK t (some i) v=(i,v)::t:=nr rfl
theorem aQ: JK t none v=t:=nr rfl
end
section use
variable {P:Program}{f:FuncId}{args args':Bi}{h:aF}{r:DV}{K:Bd}
theorem mI(q:aA P f args [] λd h'=>d=r/\h'=[])(u:jI h args=some args)(g:VT r=true)(w:K r h):aA P f args h K:=aA.useFlat q u g w
theorem AF(q:aA P f args [] λd h'=>d=r/\h'=[])(u:jI h args=some args)(g:∀n,r.sh n=r)(w:K r (uM h (nN args))):aA P f args h K:=aA.use q u g w
theorem zJW{α:Type}{C:α->Prop}{e:α->DV}(u:aA P f args [] λd h'=>∃x,C x/\d=e x/\h'=[])(w:jI h args=some args)(g:∀x,C x->VT (e x)=true)(A:∀x,C x->K (e x) h):aA P f args h K :=
 (aA.flat h w (λd B ⟨x,q,D,_⟩=>by rw[D];exact g x q) u).mono λd h' ⟨⟨B,x,q,E,G⟩,F⟩=>by
  rw[E,F];exact A x q
section
variable {P:Program}{f:FuncId}{args args':Bi}{h:aF}{r:DV}{K:Bd}
end
theorem aA.frz(G:(nN args).isEmpty=false)(C:jI h args=some args')(D:aA P f args' (uM h (nN args)) K):aA P f args h K:=by
 intro X vals H hi I J;obtain⟨q,E,L,h3,u,F,M⟩:=kF (nN args) hi;rw[<- H] at C D;have w:eC q args' vals:=oU (Y:=q) hi u E rfl rfl J C M;have g:∀v w',Ret q K v w'->Ret X K v w':=λv w' ⟨d,Y,N,O,U,V,W⟩=>⟨d,Y,N,O,u.trans F U,V,W⟩;rw[<- E];rcases D q vals L F (I.step u) w with⟨A,B⟩|⟨v,w',A,B⟩
 .exact .inl ⟨A,B.mono λe w' ⟨v,Z,hv⟩=>⟨v,Z,g _ _ hv⟩⟩
 .exact .inr ⟨v,w',A,g _ _ B⟩
end use
attribute [go_sem] Nat.zero_add Nat.add_zero Nat.mul_one zK7 List.take_length List.drop_zero List.length_map
attribute [go_sem] cond_true cond_false
attribute [go_sem] wrap_i64 oF zKl zNT zKj zKk zQ0 zS1 zQY zS2 zNE zQX zJ3 zNF zQZ zUe zUf zUd qb_n qb_r qb_e ql_e ql_r zQ4 zQ5 zQ2 zQ1 zS7 zS8 zNG zPB zPA
 zHU zHT zTJ zTH zTG zTI zTK zUb zT8 zUa zT9 zS5 vp_t vp_f vp_b zPa zGg zPc zJ4 zKT zUm zRG zRe evL zKU ZS ZQ zJ5 zJ1 zND zGh
 zO8 zK2 zS6 zPb zRF zTv zO4 NJ zKa zK1 zQ3 zO5 zGi zOz zKW zGj zKX zCW zDt zT7 zO6 EA zS4 zO3 zRJ zGf zKV zRL zRK
 db_i zRw zRx db_s db_f vbb db_b vnl db_n zHN zHM aD aQ
attribute [go_sem] zKY zPd zKZ zF7 zGc TX zR6 zP2 zSo zSp zSq zMz
attribute [go_sem] zEZ zNX NZ zPr zHh zLO zDF SY bA zRC zRy zRR dun yW VE TM zGn DY TU zFV DT dlen DQ TL EF dmm zF9 oR EV.toDV KV.toDV NL zOK zOJ TK.agg splice cellss zOm pvs XW zPD ET zHy
 zJo zAC jI zAp zLN KB zQo zRz nN zTx zDy uM zKn cG aX jZ rR mV zMA XE zBa zIp zIq AJ jJ DV.sh CV.sh EV.sh KV.sh zLS VS zHn VT
attribute [go_sem] List.getElem?_cons_zero List.getElem?_cons_succ List.map_cons List.map_nil List.take_succ_cons List.take_zero List.take_nil List.drop_succ_cons List.drop_zero List.drop_nil List.nil_append List.cons_append List.append_nil List.set_cons_zero List.set_cons_succ
 bw da bo mq dz ju List.reverse_cons List.reverse_nil nf Option.map_none j5 List.getD_cons_zero List.getD_cons_succ List.isEmpty_nil
 ne_eq not_false_eq_true ng i6 jw false_and jm reduceCtorEq l7 l8 av ix bh br eq_self true_implies false_implies List.forall_mem_cons forall_const implies_true oc bx or_false forall_eq_or_imp forall_eq Int.cast_ofNat_Int
 pq gp cy gz dp dn ej e8 dw
section
variable {P:Program}{T:Tab}{X0:Ctx}{c:Code}{Q:Be}
variable {n:Nat}{s:DS}{t t':Fr}{h:aF}
def VR(P:Program)(T:Tab)(X0:Ctx)(c:Code)(Q:Be):Nat->DS->Prop
 | 0,_=>False
 | n+1,s=>vc P T X0 c s λe g=>match e with
  | .normal=>VR P T X0 c Q n g
  | e=>Q e g
def WJ(P:Program)(T:Tab)(X0:Ctx)(c:Code)(Q:Be)(n:Nat):Be:=λe g=>match e with
 | .normal=>Later (VR P T X0 c Q n g)
 | e=>Q e g
theorem zOG: VR P T X0 c Q (n+1) s=vc P T X0 c s (WJ P T X0 c Q n):=by
 have e:WJ P T X0 c Q n=λe s'=>match e with
   | .normal=>VR P T X0 c Q n s'
   | e=>Q e s':=by
  funext e s'
  cases e<;>first|rfl|exact xJ _
 rw[e];rfl
theorem kr_n: WJ P T X0 c Q n .normal s=VR P T X0 c Q n s:=xJ _
theorem kr_r: WJ P T X0 c Q n .ret s=Q .ret s:=nr rfl
theorem kr_e{id:Nat}:WJ P T X0 c Q n (.exit id) s=Q (.exit id) s:=nr rfl
theorem eH(B:bQ P T)(C:P.follows .mixedOrders=true)(n:Nat)(h:VR P T X0 c Q n s):SWP P X0 (.loop c) s Q:=by
 intro D X a E hi F G;refine wp_loop_rounds n ?_
 induction n generalizing s X a with
 | zero=>exact h.elim
 | succ n H =>
  refine wp_mono (eN B C c h D X a E hi F G) λe I M J=>?_;obtain⟨L,Z,g,rfl,q,u,w,A⟩:=J;cases e<;>simp only[Exit.then] at g ⊢
  case normal=>exact H g Z I q u w A
  all_goals exact⟨L,Z,g,rfl,q,u,w,A⟩
section
variable {P:Program}{T:Tab}{X0:Ctx}{c:Code}{Q:Be}
end
section
variable {P:Program}{T:Tab}{X0:Ctx}{c:Code}{Q:Be}
end
theorem aB{n0:Nat}{h':aF}(g:(Nat.ble n0 h'.length)=true)(h1:h'=h.take h'.length)(q:h'.all (cG h'.length)=true)(u:WkT h'.length t t'):SF n0 ⟨n,t,h⟩ ⟨n,t',h'⟩ :=
 ⟨rfl,gk g,h1,q,u⟩
theorem cL: WkT n t []=True:=nr rfl
theorem bR{i:Nat}{d:DV}:WkT n t ((i,d)::t')=((look t i=d/\bD n d=true)/\WkT n t t'):=nr rfl
theorem dM(u:bQ P T)(w:P.follows .mixedOrders=true)(i k:Nat)(g:look t i=.c (.p .nil))(q:SWP P X0 c ⟨n,(i,.c (.own h.length 0 0))::t,h++[.arr k [] false]⟩ Q):SWP P X0 c ⟨n,t,h⟩ Q :=
 zNv i k g q
end
def zKf{k:Nat}:wkD (.c (.p .nil)) (.c (.p (.sl k []))):=zKi
def zKg{x:PV}:wkD (.c (.p x)) (.c (.p x)):=wkP.rfl
def allB(l:Ba):(∀x∈bS l,x.length=1)=True:=fr (zK8 l)
def zB2(a b:Ba):bS a++bS b=bS (a++b):=(zAE a b).symm
theorem zRt(n:Int)(l:Ba)(h1:0<=n)(g:n<=255):[PV.i .u8 n]::bS l=bS (UInt8.ofNat n.toNat::l):=by
 simp only[bS,dt]
 congr 2
 have:(UInt8.ofNat n.toNat).toNat=n.toNat:=by rw[UInt8.toNat_ofNat'];omega
 rw[this]
 congr 1
 omega
def zQQ{α:Type}(n:Nat)(a:α)(l:List α):List.take (1+n) (a::l)=a::List.take n l:=by rw[Nat.add_comm];rfl
def zQR{α:Type}(n:Nat)(a:α)(l:List α):List.take (2+n) (a::l)=a::List.take (1+n) l:=by rw[show 2+n=(1+n)+1 by omega];rfl
def zQS{α:Type}(n:Nat)(a:α)(l:List α):List.take (3+n) (a::l)=a::List.take (2+n) l:=by rw[show 3+n=(2+n)+1 by omega];rfl
attribute [go_sem] zRt zQQ zQR zQS
attribute [go_sem] zGv zGs allB zB2
attribute [go_sem] exists_eq_right wkD wkE zQ6 wkC zE7 wkP
attribute [go_sem] zOG kr_n kr_r kr_e cL bR bD
section
variable {P:Program}{T:Tab}{X0:Ctx}
variable {S rest chain:List Nat}{t:Fr}{h:aF}{K:DS->Prop}{l:List Oper}{o:Oper}{n i:Nat}{old:List aF}{p:aF->Prop}
theorem zLP{x:Operand}(h:∀i,x=.tmp i->S.contains i=true):evD (rM S t) x=evD t x:=by
 cases x with
 | tmp i=>simp only[evD];exact WT (h i rfl)
 | _=>rfl
theorem zK3{op:Op}{K:Bd}(I:∀x∈op.operands.toList,∀i,x=.tmp i->S.contains i=true):dop P T op (rM S t) h K=dop P T op t h K:=by
 have e:∀x∈op.operands.toList,evD (rM S t) x=evD t x:=λx q=>zLP (I x q);have G:∀l:List Operand,(∀x∈l,x∈op.operands.toList)->l.map (evD (rM S t))=l.map (evD t):=λl J=>nh λx q=>e x (J x q);cases op with
 | move x=>simp only[dop,e x qn]
 | assign x=>simp only[dop,e x qn]
 | pick c a b=>simp only[dop,e c qn,e a qn,e b qn]
 | alloc ty=>rfl
 | box ty x=>simp only[dop,e x qn]
 | build ty L =>
  simp only[dop];rw[nh (g:=λp=>(p.1,evD t p.2)) λp B=>by rw[e p.2 (by simp only[Op.operands,pq,cg];exact⟨p,B,rfl⟩)]]
 | buildSlice ty n L =>
  simp only[dop];rw[nh (g:=λp=>(p.1,evD t p.2)) λp B=>by rw[e p.2 (by simp only[Op.operands,pq,cg];exact⟨p,B,rfl⟩)]]
 | load ty x=>simp only[dop,e x qn]
 | store ty a v=>simp only[dop,e a qn,e v qn]
 | nilCheck x=>simp only[dop,e x qn]
 | binOp o ty a v M=>simp only[dop,e a qn,e v qn]
 | unOp o ty x=>simp only[dop,e x qn]
 | convert s d x=>simp only[dop,e x qn]
 | slice ty x lo hi mx =>
  have H:=e x qn;have w:∀d K,bnd (rM S t) lo d K=bnd t lo d K:=λd K=>by
   cases lo with
   | none=>rfl
   | some y=>simp only[bnd,e y qn]
  have A:∀d K,bnd (rM S t) hi d K=bnd t hi d K:=λd K=>by
   cases hi with
   | none=>rfl
   | some y=>simp only[bnd,e y qn]
  have C:∀d K,bnd (rM S t) mx d K=bnd t mx d K:=λd K=>by
   cases mx with
   | none=>rfl
   | some y=>simp only[bnd,e y qn]
  have w:bnd (rM S t) lo=bnd t lo:=funext λd=>funext λK=>w d K;have A:bnd (rM S t) hi=bnd t hi:=funext λd=>funext λK=>A d K;have C:bnd (rM S t) mx=bnd t mx:=funext λd=>funext λK=>C d K;cases mx with
  | some y =>
   simp only[dop];rw[w,A,C,H]
  | none =>
   simp only[dop];rw[w,A,H]
 | fieldAddr s x f=>simp only[dop,e x qn]
 | field ty x f=>simp only[dop,e x qn]
 | indexAddr ty a v=>simp only[dop,e a qn,e v qn]
 | index ty a v=>simp only[dop,e a qn,e v qn]
 | extract x n=>simp only[dop,e x qn]
 | makeFunc f first D =>
  cases f with
  | func f =>
   simp only[dop];rw[G D.toList λx q=>by simp only[Op.operands,pr,c9];exact .inr q]
  | _=>rfl
 | makeSlice ty a v=>simp only[dop,e a qn,e v qn]
 | makeMap ty r =>
  cases r with
  | none=>rfl
  | some _=>rfl
 | lookup ty m x ok=>simp only[dop,e m qn,e x qn]
 | mapUpdate ty m x v=>simp only[dop,e m qn,e x qn,e v qn]
 | call c =>
  obtain ⟨E,args,ats⟩:=c;have F:args.toList.map (evD (rM S t))=args.toList.map (evD t):=G _ λx q=>by
   simp only[Op.operands,Call.operands,pr,c9];exact .inr q
  cases E with
  | value f =>
   have N:=e f (by simp[Op.operands,Call.operands]);simp only[dop,F,N]
  | invoke r m=>rfl
  | builtin b =>
   have u:∀x∈args.toList,evD (rM S t) x=evD t x:=λx q=>e x (by simp only[Op.operands,Call.operands,pr,c9];exact .inr q);cases b with
   | len =>
    simp only[dop];split
    .rename_i q;rw[u _ (by rw[q];simp)]
    .rfl
   | append =>
    simp only[dop];split
    .rename_i q;rw[u _ (by rw[q];simp),u _ (by rw[q];simp)]
    .rfl
   | clear =>
    simp only[dop];split
    .rename_i q;rw[u _ (by rw[q];simp)]
    .rfl
   | min=>simp only[dop,F]
   | max=>simp only[dop,F]
   | _=>rfl
 | _=>rfl
theorem mS{h':aF}{v:DV}(E:S=o.looksAt l.toArray)(F:(match o.dst with|some i=>Nat.blt i n|none=>true)=true)
 (u:lF P T l.toArray [o] ⟨n,t,h⟩ (HS h' o.dst v)):lF P T l.toArray [o] ⟨n,rM S t,h⟩ (HS h' o.dst v):=by
 have w:∀K,dop P T o.op (rM S t) h K=dop P T o.op t h K:=λK=>zK3 λx G i hi=>by
  subst hi;subst E;simp only[Oper.looksAt,List.contains_eq_mem,c9,ew];exact .inl (List.mem_filterMap.2 ⟨_,G,rfl⟩)
 have A:∀d q,HS h' o.dst v (DS.put ⟨n,rM S t,h⟩ o.dst d q)=HS h' o.dst v (DS.put ⟨n,t,h⟩ o.dst d q):=by
  intro d q;cases B:o.dst with
  | none=>rfl
  | some i =>
   rw[B] at F;have hi:i<n:=Nat.blt_eq.mp F;simp only[DS.put,aw hi,HS,res,bA,az]
 have H:(λd q=>lF P T l.toArray [] (DS.put ⟨n,rM S t,h⟩ o.dst d q) (HS h' o.dst v))=λd q=>lF P T l.toArray [] (DS.put ⟨n,t,h⟩ o.dst d q) (HS h' o.dst v):=by
  funext d q;exact A d q
 simp only[lF] at u ⊢;cases C:o.guard with
 | none =>
  simp only[C] at u ⊢;rw[w];simp only[A];exact u
 | some g =>
  obtain ⟨j,b⟩:=g;simp only[C] at u ⊢;have D:((l.toArray[j]?).bind (·.dst)).map (λi=>look (rM S t) i)=((l.toArray[j]?).bind (·.dst)).map λi=>look t i:=by
   cases I:(l.toArray[j]?).bind (·.dst) with
   | none=>rfl
   | some i =>
    simp only[nf];rw[WT];subst E;simp only[Oper.looksAt,C,I,List.contains_eq_mem,c9,ew];exact .inr ql
  rw[D];simp only[w,A];exact u
theorem fR(v:DV)(g:l[i]?=some o)(q:(match o.dst with|some i=>Nat.blt i n|none=>true)=true)
 (h1:lF P T l.toArray [o] ⟨n,t,h⟩ (HS h o.dst v))(u:rW P T l.toArray n [] K rest (JK t o.dst v) [h]):rW P T l.toArray n [] K (i::rest) t [h] :=
 zPi v g (λ_ w=>mS w q h1) u
theorem bJ(v:DV)(h':aF)(g:l[i]?=some o)(q:(match o.dst with|some i=>Nat.blt i n|none=>true)=true)(u:chain.contains i=true)
 (h1:lF P T l.toArray [o] ⟨n,t,h⟩ (HS h' o.dst v))(w:rW P T l.toArray n chain K rest (JK t o.dst v) (h' :: h::old)):rW P T l.toArray n chain K (i::rest) t (h::old) :=
 zTw v h' g u (λ_ A=>mS A q h1) w
theorem zRQ(v:DV)(q:l[i]?=some o)(u:(match o.dst with|some i=>Nat.blt i n|none=>true)=true)(w:chain.contains i=false)
 (h1:∀g∈h::old.take (old.length-zMk l.toArray chain i),lF P T l.toArray [o] ⟨n,t,g⟩ (HS g o.dst v))(A:rW P T l.toArray n chain K rest (JK t o.dst v) (h::old)):rW P T l.toArray n chain K (i::rest) t (h::old) :=
 zPj v q w (λ_ B g C=>mS B u (h1 g C)) A
theorem bI(v:DV)(q:l[i]?=some o)(u:(match o.dst with|some i=>Nat.blt i n|none=>true)=true)(w:chain.contains i=false)
 (h1:∀g∈h::old,lF P T l.toArray [o] ⟨n,t,g⟩ (HS g o.dst v))(A:rW P T l.toArray n chain K rest (JK t o.dst v) (h::old)):rW P T l.toArray n chain K (i::rest) t (h::old) :=
 zRQ v q u w (λg B=>h1 g (by
  rcases bx.1 B with e|e
  .exact e▸cz
  .exact cu _ (lg e))) A
theorem aS: ∀h∈([]:List aF),p h:=λ_ h=>by cases h
theorem aL{l:List aF}(h1:p h)(g:∀x∈l,p x):∀x∈h::l,p x:=λx q=>by
 rcases bx.1 q with e|e
 .exact e▸h1
 .exact g x e
end
def zSD(a b:Nat):KV->Bool
 | .p _=>true
 | .ptr i _=>decide (i≠a) && decide (i≠b)
def zJh(a b:Nat):CV->Option CV
 | .p x=>some (.p x)
 | .own i off len=>if i=b then some (.own a off len) else if i=a then none else some (.own i off len)
 | .ptr i off=>if i=a then none else if i=b then none else some (.ptr i off)
 | .aptr i x y=>if i=a then none else if i=b then none else some (.aptr i x y)
 | .mp i=>if i=a then none else if i=b then none else some (.mp i)
 | .bs i n=>if i=a then none else if i=b then none else some (.bs i n)
 | .eptr cs=>some (.eptr cs)
 | .full k q=>some (.full k q)
 | .clo f g=>if g.all (zSD a b) then some (.clo f g) else none
def zR(a b:Nat):Bf->Option Bf
 | []=>some []
 | c::cs=>match zJh a b c,zR a b cs with
  | some x,some g=>some (x::g)
  | _,_=>none
def zE5(a b:Nat):DV->DV
 | .jk=>.jk
 | .c x=>match zJh a b x with
  | some y=>.c y
  | none=>.jk
 | .agg g=>match zR a b g with
  | some q=>.agg q
  | none=>.jk
 | .tup []=>.tup []
 | .tup _=>.jk
def zJj(a b:Nat):Fr->Fr
 | []=>[]
 | p::t=>(p.1,zE5 a b p.2)::zJj a b t
def renB(a b:Nat):DB->DB
 | .box cells=>match zR a b cells with
  | some c=>.box c
  | none=>.dead
 | x=>x
def zOo(a b:Nat):aF->aF
 | []=>[]
 | x::l=>renB a b x::zOo a b l
def zQn(a b:Nat)(h:aF):aF:=((zOo a b h).set a (h.getD b .dead)).set b .dead
def CO(a b:Nat)(i:Nat):∀t:Fr,look (zJj a b t) i=zE5 a b (look t i)
 | []=>rfl
 | p::t=>by
  simp only[zJj,look];split
  .rfl
  .exact CO a b i t
def zJi(a b:Nat):∀(h:aF) (i:Nat),(zOo a b h)[i]?=(h[i]?).map (renB a b)
 | [],i=>by simp[zOo]
 | x::l,0=>rfl
 | x::l,i+1=>by simp only[zOo,fp];exact zJi a b l i
def RE(a b:Nat):∀h:aF,(zOo a b h).length=h.length
 | []=>rfl
 | x::l=>by simp[zOo,RE a b l]
def oB(a b:Nat)(h:aF):(zQn a b h).length=h.length:=by simp[zQn,RE]
def nE{a b:Nat}{x:DB}(h:(renB a b x).live=true):x.live=true/\(renB a b x).fix=x.fix:=by
 cases x with
 | box cells=>exact⟨rfl,by simp only[renB];split<;>rfl⟩
 | dead=>simp[renB,DB.live] at h
 | arr k g r=>exact⟨rfl,rfl⟩
 | mp g=>exact⟨rfl,rfl⟩
def Ctx.ren(X:Ctx)(a b:Nat):Ctx:=⟨X.w,X.S,λi=>if i=a then X.G b else X.G i,zQn a b X.h⟩
section
variable {X:Ctx}{a b:Nat}
variable {v:Value}{kb:Nat}{eb:Bc}
theorem jR{h:aF}(B:a≠b){i:Nat}{db:DB}(g:(zQn a b h)[i]?=some db)(u:db.live=true):(i=a/\h[b]?=some db/\a<h.length)∨(i≠a/\i≠b/\∃x,h[i]?=some x/\db=renB a b x):=by
 unfold zQn at g;rcases cM g with⟨rfl,rfl,_⟩|⟨w,g⟩
 .simp[DB.live] at u
 .rcases cM g with⟨rfl,rfl,A⟩|⟨q,g⟩
  .left;refine⟨rfl,?_,by simpa[RE] using A⟩
   rw[ed] at u ⊢;cases C:h[b]? with
   | none=>rw[C] at u;simp[DB.live] at u
   | some x=>rfl
  .right;rw[zJi] at g;obtain⟨x,D,E⟩:=du.1 g;exact⟨q,w,x,D,E.symm⟩
theorem rO.ren(q:a≠b){c:KV}(u:zSD a b c=true)(h:rO X c v):rO (X.ren a b) c v:=by
 cases c<;>simp only[rO] at h ⊢
 case p=>exact h
 case ptr id off =>
  simp only[zSD,bn,ew] at u;obtain⟨A,B,C⟩:=h;refine⟨by simpa[Ctx.ren,oB] using A,B,λcells D=>?_⟩
  rcases jR q D rfl with⟨E,_⟩|⟨_,_,x,F,w⟩
  .exact absurd E u.1
  .cases x with
   | box g=>simp only[Ctx.ren,au u.1];exact C _ F
   | dead=>simp[renB] at w
   | mp G=>simp[renB] at w
   | arr k G r=>simp[renB] at w
theorem gI.ren(g:a≠b):∀{cs:List KV} {vs:Bb},cs.all (zSD a b)=true->gI X cs vs->gI (X.ren a b) cs vs
 | [],[],_,_=>True.intro
 | _::_,_::_,q,h=>by
  simp only[dz,bn] at q;exact⟨h.1.ren g q.1,gI.ren g q.2 h.2⟩
 | [],_::_,_,h=>h.elim
 | _::_,[],_,h=>h.elim
theorem cJ.ren(A:a≠b)(Z:X.h[b]?=some (.arr kb eb false))(O:a<X.h.length){c M:CV}(g:zJh a b c=some M)(h:cJ X c v):cJ (X.ren a b) M v:=by
 cases c<;>simp only[zJh] at g
 case p=>cases g;exact h
 case own i off len =>
  split at g
  .rename_i hi;subst hi;cases g;simp only[cJ] at h ⊢;obtain⟨C,B,D⟩:=h;refine⟨by simpa[Ctx.ren,oB] using O,B,λk E N F=>?_⟩
   rcases jR A F rfl with⟨_,G,_⟩|⟨H,_⟩
   .have:=D _ _ _ G;simp only[Ctx.ren,az];exact this
   .exact absurd rfl H
  .rename_i hi;split at g
   .cases g
   .rename_i w;cases g;simp only[cJ] at h ⊢;obtain⟨C,B,D⟩:=h;refine⟨by simpa[Ctx.ren,oB] using C,B,λk E N F=>?_⟩
    rcases jR A F rfl with⟨H,_⟩|⟨_,_,x,G,u⟩
    .exact absurd H w
    .cases x with
     | arr k' L U =>
      simp only[renB] at u;cases u;have:=D _ _ _ G;simp only[Ctx.ren,au w];exact this
     | dead=>simp[renB] at u
     | mp E=>simp[renB] at u
     | box cells=>simp only[renB] at u;split at u<;>cases u
 case ptr i off =>
  split at g
  .cases g
  .rename_i w;split at g
   .cases g
   .rename_i J;cases g;simp only[cJ] at h ⊢;obtain⟨C,B,D⟩:=h;refine⟨by simpa[Ctx.ren,oB] using C,B,λcells F=>?_⟩
    rcases jR A F rfl with⟨H,_⟩|⟨_,_,x,G,u⟩
    .exact absurd H w
    .cases x with
     | box I=>simp only[Ctx.ren,au w];exact D _ G
     | dead=>simp[renB] at u
     | mp E=>simp[renB] at u
     | arr k E r=>simp[renB] at u
 case aptr i x y =>
  split at g
  .cases g
  .rename_i w;split at g
   .cases g
   .rename_i J;cases g;simp only[cJ] at h ⊢;obtain⟨C,B,D⟩:=h;refine⟨by simpa[Ctx.ren,oB] using C,B,λk E N F=>?_⟩
    rcases jR A F rfl with⟨H,_⟩|⟨_,_,q,G,u⟩
    .exact absurd H w
    .cases q with
     | arr k' L U =>
      simp only[renB] at u;cases u;simp only[Ctx.ren,au w];exact D _ _ _ G
     | dead=>simp[renB] at u
     | mp E=>simp[renB] at u
     | box cells=>simp only[renB] at u;split at u<;>cases u
 case bs i n =>
  split at g
  .cases g
  .rename_i w;split at g
   .cases g
   .rename_i J;cases g;simp only[cJ] at h ⊢;obtain⟨C,B,D⟩:=h;refine⟨by simpa[Ctx.ren,oB] using C,B,λcells F=>?_⟩
    rcases jR A F rfl with⟨H,_⟩|⟨_,_,x,G,u⟩
    .exact absurd H w
    .cases x with
     | box I=>simp only[Ctx.ren,au w];exact D _ G
     | dead=>simp[renB] at u
     | mp E=>simp[renB] at u
     | arr k E r=>simp[renB] at u
 case mp i =>
  split at g
  .cases g
  .rename_i w;split at g
   .cases g
   .rename_i J;cases g;simp only[cJ] at h ⊢;obtain⟨C,B,D⟩:=h;refine⟨by simpa[Ctx.ren,oB] using C,B,λE F=>?_⟩
    rcases jR A F rfl with⟨H,_⟩|⟨_,_,q,G,u⟩
    .exact absurd H w
    .cases q with
     | mp L =>
      simp only[renB] at u;cases u;simp only[Ctx.ren,au w];exact D _ G
     | dead=>simp[renB] at u
     | arr k E r=>simp[renB] at u
     | box cells=>simp only[renB] at u;split at u<;>cases u
 case eptr cs=>cases g;exact h
 case full k E=>cases g;exact h
 case clo f V =>
  split at g
  .rename_i W;cases g;obtain⟨Y,C,B⟩:=h;exact⟨Y,C,B.ren A W⟩
  .cases g
theorem bP.ren(u:a≠b)(w:X.h[b]?=some (.arr kb eb false))(A:a<X.h.length):∀{cs g:Bf} {vs:Bb},zR a b cs=some g->bP X cs vs->bP (X.ren a b) g vs
 | [],_,[],q,_=>by simp only[zR] at q;cases q;exact True.intro
 | c::cs,g,v::vs,q,h=>by
  simp only[zR] at q;split at q
  .rename_i x D B C;cases q;exact⟨h.1.ren u w A B,bP.ren u w A C h.2⟩
  .cases q
 | [],_,_::_,_,h=>h.elim
 | _::_,_,[],_,h=>h.elim
theorem bH.ren(g:a≠b)(B:X.h[b]?=some (.arr kb eb false))(C:a<X.h.length){d:DV}(h:bH X d v):bH (X.ren a b) (zE5 a b d) v:=by
 cases d with
 | jk=>exact True.intro
 | c x =>
  simp only[zE5];split
  .rename_i y q;exact cJ.ren g B C q h
  .exact True.intro
 | agg E =>
  simp only[zE5];split
  .rename_i F q;obtain⟨u,w,A⟩:=h;exact⟨u,w,A.ren g B C q⟩
  .exact True.intro
 | tup D =>
  cases D with
  | nil =>
   obtain⟨u,w,A⟩:=h;cases u with
   | nil=>exact⟨[],w,True.intro⟩
   | cons _ _=>exact A.elim
  | cons _ _=>exact True.intro
theorem cR.ren(u:a≠b)(w:X.h[b]?=some (.arr kb eb false))(A:a<X.h.length){bl:Nat}:∀{cs g:Bf} {off:Nat},zR a b cs=some g->cR X bl off cs->cR (X.ren a b) bl off g
 | [],_,_,q,_=>by simp only[zR] at q;cases q;exact True.intro
 | c::cs,g,off,q,h=>by
  simp only[zR] at q;split at q
  .rename_i x G B C;cases q;obtain⟨⟨v,D,E⟩,F⟩:=h;exact⟨⟨v,D,E.ren u w A B⟩,cR.ren u w A C F⟩
  .cases q
theorem YF: ∀{cs g:Bf},zR a b cs=some g->g.length=cs.length
 | [],_,h=>by simp only[zR] at h;cases h;rfl
 | c::cs,g,h=>by
  simp only[zR] at h;split at h
  .rename_i x u w q;cases h;simp[YF q]
  .cases h
theorem HInv.ren(hi:HInv X)(A:a≠b)(U:X.h[b]?=some (.arr kb eb false))(Z:a<X.h.length):HInv (X.ren a b) where
 slt:=hi.slt
 blk:=λi H h=>by
  by_cases w:H.live=true
  .rcases jR A h w with⟨rfl,q,_⟩|⟨q,L,x,G,rfl⟩
   .have:=hi.blk b H q;rw[U] at q;cases q;simp only[fI,Ctx.ren,az] at this ⊢;exact this
   .have:=hi.blk i x G;cases x with
    | dead=>simp[renB,DB.live] at w
    | arr k es r =>
     simp only[renB,fI,Ctx.ren,au q] at this ⊢;exact this
    | mp es =>
     simp only[renB,fI,Ctx.ren,au q] at this ⊢;exact this
    | box cells =>
     simp only[renB] at w ⊢;split
     .rename_i c V;simp only[fI] at this ⊢;obtain⟨g,arr,el,fz,g1,g2,g3,g4,g5⟩:=this;exact⟨g,arr,el,fz,by simp only[Ctx.ren,au q];exact g1,g2,by rw[YF V];exact g3,g4,g5.ren A U Z V⟩
     .trivial
  .cases H<;>simp_all[DB.live,fI]
 own:=λi H g h w B=>by
  rcases jR A h w with⟨rfl,q,_⟩|⟨q,L,x,G,rfl⟩
  .simp only[Ctx.ren,az] at B;exact hi.own b H g q w B
  .simp only[Ctx.ren,au q] at B;have E:=nE w;rw[E.2];exact hi.own i x g G E.1 B
 inj:=λi d W d' g M h w I h' C B u N=>by
  rcases jR A h w with⟨rfl,q,_⟩|⟨q,L,x,G,rfl⟩<;>rcases jR A h' C with⟨rfl,D,_⟩|⟨D,O,Y,J,rfl⟩
  .rfl
  .simp only[Ctx.ren,az] at B;simp only[Ctx.ren,au D] at u;have F:=nE C;exact absurd (hi.inj b d W Y g M q w I J F.1 B u N).symm O
  .simp only[Ctx.ren,au q] at B;simp only[Ctx.ren,az] at u;have E:=nE w;rw[E.2] at I;exact absurd (hi.inj i x b d' g M G E.1 I D C B u N) L
  .simp only[Ctx.ren,au q] at B;simp only[Ctx.ren,au D] at u;have E:=nE w;have F:=nE C;rw[E.2] at I;exact hi.inj i x W Y g M G E.1 I J F.1 B u N
theorem cX.renB{d x:DB}(h:cX d x)(g:(renB a b x).live=true):cX d (renB a b x):=by
 cases x with
 | dead=>simp[Dm.renB,DB.live] at g
 | arr k q r=>exact h
 | mp q=>exact h
 | box cells =>
  cases d<;>simp only[cX] at h;simp only[Dm.renB] at g ⊢;split
  .exact True.intro
  .rename_i u;simp[u,DB.live] at g
theorem Step.ren{X0:Ctx}(q:Step X0 X)(w:a≠b)(O:X0.h.length<=a)(h1:X0.h.length<=b):Step X0 (X.ren a b) where
 size:=q.size
 os:=q.os
 tape:=q.tape
 output:=q.output
 kept:=q.kept
 len:=by simp only[Ctx.ren,oB];exact q.len
 ids:=λi H C h u=>by
  rcases jR w h u with⟨rfl,_⟩|⟨A,I,x,D,rfl⟩
  .omega
  .obtain⟨E,J,L,M,N⟩:=q.ids i x C D (nE u).1;exact⟨E,J,L.renB u,by simp only[Ctx.ren,au A];exact M,N⟩
 frame:=q.frame
 mine:=λi E g h u F B=>by
  rcases jR w h u with⟨rfl,A,_⟩|⟨A,I,x,D,rfl⟩
  .simp only[Ctx.ren,az] at B;exact q.mine b E g A u F B
  .simp only[Ctx.ren,au A] at B;have G:=nE u;rw[G.2] at F;exact q.mine i x g D G.1 F B
 upper:=q.upper
end
def DS.ren(s:DS)(a b:Nat):DS:=⟨s.n,zJj a b s.t,zQn a b s.h⟩
def BH(n0:Nat)(s g:DS):Prop:=SF n0 s g∨∃a b kb eb,a≠b/\n0<=a/\n0<=b/\a<s.h.length/\s.h[b]?=some (.arr kb eb false)/\SF n0 (s.ren a b) g
def BH.use{n0:Nat}{s B:DS}(h:BH n0 s B){X0 X:Ctx}{a:Act}(F:X0.h.length=n0)(C:X.h=s.h)(hi:HInv X)(G:Step X0 X)(A:TInv X s a):∃u,u.w=X.w/\u.h=B.h/\HInv u/\Step X0 u/\TInv u B a:=by
 rcases h with h|⟨p,q,kb,eb,g,H,I,D,E,h⟩
 .exact h.use F C hi G A
 .rw[<- C] at D E;refine h.use (X:=X.ren p q) F ?_ (hi.ren g E D) (G.ren g qd qd) ⟨A.size,λi=>?_,A.defs⟩
  .simp only[Ctx.ren,DS.ren,C]
  .simp only[DS.ren];rw[CO];exact(A.rel i).ren g E D
section
variable {P:Program}{T:Tab}{X0:Ctx}{c:Code}{Q:Be}
variable {s:DS}{n0:Nat}
def AX{α:Type}(n0:Nat)(I:α->DS)(J:α->Prop)(μ:α->Nat)(x:α)(Q:Be):Be:=λe g=>match e with
 | .normal=>∃y,J y/\μ y < μ x/\BH n0 g (I y)
 | e=>Q e g
theorem aJ(D:bQ P T)(E:P.follows .mixedOrders=true){α:Type}(I:α->DS)(J:α->Prop)(μ:α->Nat)(g:α)(F:J g)(G:BH X0.h.length s (I g))
 (h:∀x,J x->vc P T X0 c (I x) (AX X0.h.length I J μ x Q)):SWP P X0 (.loop c) s Q:=by
 intro H X a L hi M N;obtain⟨O,U,V,W,h4,h5⟩:=G.use rfl L hi M N;rw[<- U];refine wp_loop_ghost (λn a w=>∃x X,μ x=n/\J x/\X.w=w/\X.h=(I x).h/\HInv X/\Step X0 X/\TInv X (I x) a) (μ g) ⟨g,O,rfl,F,rfl,V,W,h4,h5⟩ ?_;rintro n a' w' ⟨x,Y,rfl,k1,rfl,k2,k3,k4,k5⟩;refine wp_mono (eN D E c (h x k1) H Y a' k2 k3 k4 k5) λe a w hp=>?_;obtain⟨s',Z,q,rfl,u,A,B,C⟩:=hp;cases e<;>simp only[Exit.then,AX] at q ⊢
 case normal =>
  obtain⟨y,q1,q2,q3⟩:=q;obtain⟨Z',r1,r2,r3,r4,r5⟩:=q3.use rfl u A B C;exact⟨μ y,q2,y,Z',rfl,q1,r1,r2,r3,r4,r5⟩
 all_goals exact⟨s',Z,q,rfl,u,A,B,C⟩
theorem qr_e{α:Type}{I:α->DS}{J:α->Prop}{μ:α->Nat}{x:α}{id:Nat}:AX n0 I J μ x Q (.exit id) s=Q (.exit id) s:=nr rfl
theorem qr_r{α:Type}{I:α->DS}{J:α->Prop}{μ:α->Nat}{x:α}:AX n0 I J μ x Q .ret s=Q .ret s:=nr rfl
theorem cW{α:Type}{I:α->DS}{J:α->Prop}{μ:α->Nat}{x:α}(y:α)(h1:J y)(g:μ y < μ x)(q:SF n0 s (I y)):AX n0 I J μ x Q .normal s:=⟨y,h1,g,.inl q⟩
theorem dN{α:Type}{I:α->DS}{J:α->Prop}{μ:α->Nat}{x:α}(y:α)(a b:Nat){kb:Nat}{eb:Bc}(h1:J y)(q:μ y < μ x)(g:(!(Nat.beq a b) && Nat.ble n0 a && Nat.ble n0 b && Nat.blt a s.h.length)=true)
 (u:s.h[b]?=some (.arr kb eb false))(w:SF n0 (s.ren a b) (I y)):AX n0 I J μ x Q .normal s:=by
 simp only[bn,dg] at g;refine⟨y,h1,q,.inr ⟨a,b,kb,eb,λe=>?_,gk g.1.1.2,gk g.1.2,Nat.blt_eq.mp g.2,u,w⟩⟩;have:=g.1.1.1;subst e;rw[Nat.beq_refl] at this;cases this
end
def zEW(n:Nat):((n:Int)+1).toNat=n+1:=qd
attribute [go_sem] zEW
attribute [go_sem] qr_e qr_r DS.ren zJj zE5 zJh zR renB zOo zQn zSD
def sp{A B:Prop}(g:B)(h:A=B:=by (simp (maxSteps:=1000000) only[*,go_sem,Nat.reduceLT,Nat.reduceLeDiff,Nat.reduceEqDiff,↓reduceIte,Nat.reduceAdd,Nat.reduceSub,Nat.reduceMul,Int.reduceLT,Int.reduceLE,Int.reduceAdd,Int.reduceSub,Int.reduceMul,Int.reduceNeg,Int.reduceToNat,Int.reduceEq,Int.reduceBEq,Int.reduceBNe,Nat.reduceBEq,fa,bne_self_eq_false'];rfl)):A:=h.mpr g
def sq{A B:Prop}(g:B)(h:A=B:=by (simp (maxSteps:=1000000) only[*,go_sem,Nat.reduceLT,Nat.reduceLeDiff,Nat.reduceEqDiff,↓reduceIte,Nat.reduceAdd,Nat.reduceSub,Nat.reduceMul,Int.reduceLT,Int.reduceLE,Int.reduceAdd,Int.reduceSub,Int.reduceMul,Int.reduceNeg,Int.reduceToNat,Int.reduceEq,Int.reduceBEq,Int.reduceBNe,Nat.reduceBEq,fa,bne_self_eq_false',bh,br];rfl)):A:=h.mpr g
def uF{P:Program}{f:FuncId}{args:Bi}{h:aF}{r:DV}{K:Bd}(q:aA P f args [] λd h'=>d=r/\h'=[])(u:K r h)(w:jI h args=some args:=by exact rfl)(g:VT r=true:=by exact rfl):aA P f args h K:=mI q w g u
def uN{P:Program}{f:FuncId}{args:Bi}{h:aF}{r:DV}{K:Bd}(q:aA P f args [] λd h'=>d=r/\h'=[])(u:K r (uM h (nN args)))(w:jI h args=some args:=by exact rfl)(g:∀n,r.sh n=r:=by exactλ_=>rfl):aA P f args h K:=AF q w g u
def ai{A B:Prop}(g:B)(q:A:=by first|omega|decide|assumption|(simp only[ew,ik] at *;omega)):A/\B:=⟨q,g⟩
def wkK{n:Nat}{t t':Fr}(H:WkT n t t':=by (simp only[bR,cL];(repeat' (first|exact rfl|exact True.intro|refine And.intro ?_ ?_))<;>fail)):WkT n t t':=H
def wkS{n:Nat}{t t':Fr}(H:WkT n t t':=by simp[bR,cL,bA,bD,aX,jZ,cG,zJj,zE5,zJh,tO,PC,zB3]):WkT n t t':=H
def lk(k n:Nat)(h:k<n:=by omega)(g:n<=9223372036854775807:=by omega):decide ((k:Int)<(n:Int))=true/\(k:Int)<(n:Int)/\(0:Int)<=k/\IntKind.i64.wrap ((k:Int)+1)=k+1:=⟨df qd,qd,qd,wrap_i64 qd qd⟩
def lk3(k n:Nat)(h:k<n:=by omega):decide ((k:Int)<(n:Int))=true/\(k:Int)<(n:Int)/\(0:Int)<=k:=⟨df qd,qd,qd⟩
def nlt(n:Nat):decide ((n:Int)<(n:Int))=false:=er qd
def dR{P:Program}{T:Tab}{X0:Ctx}{A:Prop}(q:bQ P T)(u:P.follows .mixedOrders=true){id:Nat}{l:List Oper}{n:Nat}{t:Fr}{h:aF}{Q:Be}(chain g:List Nat)(w:A)(B:vA l.toArray n chain g=true:=by decide +kernel)
 (H:PLift A->rW P T l.toArray n chain (Q .normal) g t [h]:=by (intro C;(repeat' (first|(refine aM ?_)|((refine fR ?_ rfl rfl ?_ ?_);(rotate_left 1);(focus ((repeat' (first|exact⟨⟩|refine sp ?_));exact rfl));(simp only[aD,aQ]))|((refine bJ ?_ ?_ rfl rfl rfl ?_ ?_);(rotate_left 2);(focus ((repeat' (first|exact⟨⟩|refine sp ?_));(first|exact rfl|(refine And.intro ?_ ?_<;>exact rfl))));(simp only[aD,aQ]))|((refine bI ?_ rfl rfl rfl ?_ ?_);(rotate_left 1);(focus ((repeat' (first|exact aS|refine aL ?_ ?_));(all_goals ((repeat' (first|exact⟨⟩|refine sp ?_));(try (exact rfl))))));(simp only[aD,aQ]))|exact C.down)))):SWP P X0 (.region id l.toArray true) ⟨n,t,h⟩ Q:=aK q u chain g B (H ⟨w⟩)
def dQ{P:Program}{T:Tab}{X0:Ctx}{A:Prop}(q:bQ P T)(u:P.follows .mixedOrders=true){id:Nat}{l:List Oper}{n:Nat}{t:Fr}{h:aF}{Q:Be}(chain g:List Nat)(w:A)(B:vA l.toArray n chain g=true:=by decide +kernel)
 (H:PLift A->rW P T l.toArray n chain (Q .normal) g t [h]:=by (intro C;(repeat' (first|(refine aM ?_)|((refine fR ?_ rfl rfl ?_ ?_);(rotate_left 1);(focus ((repeat' (first|exact⟨⟩|refine sq ?_));exact rfl));(simp only[aD,aQ]))|((refine bJ ?_ ?_ rfl rfl rfl ?_ ?_);(rotate_left 2);(focus ((repeat' (first|exact⟨⟩|refine sq ?_));(first|exact rfl|(refine And.intro ?_ ?_<;>exact rfl))));(simp only[aD,aQ]))|((refine bI ?_ rfl rfl rfl ?_ ?_);(rotate_left 1);(focus ((repeat' (first|exact aS|refine aL ?_ ?_));(all_goals ((repeat' (first|exact⟨⟩|refine sq ?_));(try (exact rfl))))));(simp only[aD,aQ]))|exact C.down)))):SWP P X0 (.region id l.toArray true) ⟨n,t,h⟩ Q:=aK q u chain g B (H ⟨w⟩)
def dA{P:Program}{T:Tab}{X0:Ctx}{A:Prop}(q:bQ P T)(u:P.follows .mixedOrders=true){id:Nat}{l:List Oper}{n:Nat}{t:Fr}{h:aF}{Q:Be}(chain g:List Nat)(w:A)(B:vA l.toArray n chain g=true:=by decide +kernel)
 (H:PLift A->rW P T l.toArray n chain (Q .normal) g t [h]:=by (intro C;(repeat' (first|(refine aM ?_)|((refine fR ?_ rfl rfl ?_ ?_);(rotate_left 1);(focus ((repeat' (first|exact⟨⟩|refine sp ?_|refine ai ?_));exact rfl));(simp only[aD,aQ]))|((refine bJ ?_ ?_ rfl rfl rfl ?_ ?_);(rotate_left 2);(focus ((repeat' (first|exact⟨⟩|refine sp ?_|refine ai ?_));(first|exact rfl|(refine And.intro ?_ ?_<;>exact rfl))));(simp only[aD,aQ]))|((refine bI ?_ rfl rfl rfl ?_ ?_);(rotate_left 1);(focus ((repeat' (first|exact aS|refine aL ?_ ?_));(all_goals ((repeat' (first|exact⟨⟩|refine sp ?_|refine ai ?_));(try (exact rfl))))));(simp only[aD,aQ]))|exact C.down)))):SWP P X0 (.region id l.toArray true) ⟨n,t,h⟩ Q:=aK q u chain g B (H ⟨w⟩)
def dG{P:Program}{T:Tab}{X0:Ctx}(q:bQ P T)(u:P.follows .mixedOrders=true){id:Nat}{l:List Oper}{n:Nat}{t:Fr}{h:aF}{Q:Be}(chain g:List Nat)(w:rW P T l.toArray n chain (Q .normal) g t [h])(A:vA l.toArray n chain g=true:=by decide +kernel):SWP P X0 (.region id l.toArray true) ⟨n,t,h⟩ Q:=aK q u chain g A w
def d1{P:Program}{T:Tab}{l:List Oper}{n i:Nat}{rest:List Nat}{t:Fr}{h:aF}{K:DS->Prop}{o:Oper}(v:DV)(h1:lF P T l.toArray [o] ⟨n,t,h⟩ (HS h o.dst v))(g:rW P T l.toArray n [] K rest (JK t o.dst v) [h])(q:l[i]?=some o:=by exact rfl)(u:(match o.dst with|some i=>Nat.blt i n|none=>true)=true:=by exact rfl):rW P T l.toArray n [] K (i::rest) t [h]:=fR v q u h1 g
def dC{P:Program}{T:Tab}{l:List Oper}{n i:Nat}{chain rest:List Nat}{t:Fr}{h:aF}{old:List aF}{K:DS->Prop}{o:Oper}(v:DV)(h':aF)(h1:lF P T l.toArray [o] ⟨n,t,h⟩ (HS h' o.dst v))(g:rW P T l.toArray n chain K rest (JK t o.dst v) (h' :: h::old))(q:l[i]?=some o:=by exact rfl)(u:(match o.dst with|some i=>Nat.blt i n|none=>true)=true:=by exact rfl)(w:chain.contains i=true:=by exact rfl):rW P T l.toArray n chain K (i::rest) t (h::old):=bJ v h' q u w h1 g
def dL{P:Program}{T:Tab}{l:List Oper}{n i:Nat}{chain rest:List Nat}{t:Fr}{h:aF}{old:List aF}{K:DS->Prop}{o:Oper}(v:DV)(h1:∀g∈h::old,lF P T l.toArray [o] ⟨n,t,g⟩ (HS g o.dst v))(q:rW P T l.toArray n chain K rest (JK t o.dst v) (h::old))(u:l[i]?=some o:=by exact rfl)(w:(match o.dst with|some i=>Nat.blt i n|none=>true)=true:=by exact rfl)(A:chain.contains i=false:=by exact rfl):rW P T l.toArray n chain K (i::rest) t (h::old):=bI v u w A h1 q
def eE{A B:Type}{a:A}{b:B}:a=a/\b=b:=⟨rfl,rfl⟩
end Go.Dm
end
end
