/- Part 4 of the proof of roomMerges_card, set without needless blanks. No condition. -/
import Derived.Test.YtflcjdohmojepaaGreatDoorM02
import Derived.LoopN
set_option linter.all false
set_option maxRecDepth 100000
set_option maxHeartbeats 16000000
section
section
namespace Go.Dm
open Go
variable {P:Program}{T:Tab}{n:Nat}{h:aD}{R:DV->aD->Prop}{s:DS}
def vc(P:Program)(T:Tab)(X0:Ctx):Code->DS->(Exit->DS->Prop)->Prop
 | .skip,s,Q=>Q .normal s
 | .ret,s,Q=>Q .ret s
 | .exit id,s,Q=>Q (.exit id) s
 | .seq x y,s,Q=>vc P T X0 x s λe s'=>match e with
  | .normal=>vc P T X0 y s' Q
  | e=>Q e s'
 | .block id c,s,Q=>vc P T X0 c s (mZ id Q)
 | .cond c x y,s,Q=>match evD s.t c with
  | .c (.p (.b t))=>(t=true->vc P T X0 x s Q)/\(t=false->vc P T X0 y s Q)
  | _=>False
 | .region _ ops false,s,Q=>jI P T ops ops.toList s (Q .normal)
 | c,s,Q=>SWP P X0 c s Q
theorem dP{X0:Ctx}(hT:bM P T)(hm:P.follows .mixedOrders=true):∀(c:Code) {s:DS} {Q:Exit->DS->Prop},vc P T X0 c s Q->SWP P X0 c s Q
 | .skip,s,Q,h=>zKI h
 | .ret,s,Q,h=>zNH h
 | .exit id,s,Q,h=>zKF h
 | .seq x y,s,Q,h=>DQ (fW (dP hT hm x h) λe s' hq=>by
   cases e<;>simp only at hq ⊢
   case normal=>exact dP hT hm y hq
   all_goals exact hq)
 | .block id c,s,Q,h=>VB (fW (dP hT hm c h) λe s' hq=>by
   cases e<;>simp only[mZ] at hq ⊢<;>exact hq)
 | .cond c x y,s,Q,h=>by
   simp only[vc] at h;split at h
   .rename_i t ht;exact zKE ht (λe=>dP hT hm x (h.1 e)) (λe=>dP hT hm y (h.2 e))
   .exact h.elim
 | .region id ops false,s,Q,h=>zCV hT h
 | .region id ops true,s,Q,h=>h
 | .loop c,s,Q,h=>h
 | .rangeFunc _ _ _ _,s,Q,h=>h
 | .scope _,s,Q,h=>h
 | .label _,s,Q,h=>h
 | .goto _,s,Q,h=>h
 | .refuse _,s,Q,h=>h
def zLb(n:Nat)(h:aD)(d:DV)(R:DV->aD->Prop):Prop :=
 match zGU h d with
 | some d'=>((sN h (zNj d)).take n).all (bP n)=true/\R d' ((sN h (zNj d)).take n)
 | none=>False
theorem zLb.fin{d:DV}(hf:zLb n h d R):Fin n h d R:=by
 unfold zLb at hf;split at hf
 .rename_i d' hd;exact .inr (.inl ⟨d',hd,hf.1,hf.2⟩)
 .exact hf.elim
def zC8(T:Tab)(n:Nat)(t:Fr)(h:aD)(R:DV->aD->Prop):List ResultVar->List EV->Prop
 | [],es=>zLb n h (KD es.reverse) R
 | .tmp i::rs,es =>
  match look t i with
  | .c x=>zC8 T n t h R rs (.c x::es)
  | .agg xs=>zC8 T n t h R rs (.agg xs::es)
  | _=>False
 | .cell a ty::rs,es=>(T ty).size≠0/\vY (T ty) h (look t a) λd =>
  match d with
  | .c x=>zC8 T n t h R rs (.c x::es)
  | .agg xs=>zC8 T n t h R rs (.agg xs::es)
  | _=>False
def ZK(T:Tab)(n:Nat)(rs:List ResultVar)(R:DV->aD->Prop):Exit->DS->Prop
 | .normal,s=>zC8 T n s.t s.h R rs []
 | .ret,s=>zC8 T n s.t s.h R rs []
 | _,_=>False
theorem FN{T:TI}{a:DV}{K K':DV->Prop}(hk:∀d,K d->K' d)(hd:vY T h a K):vY T h a K':=by
 unfold vY at hd ⊢;revert hd;split
 .split
  .split
   .exactλh=>⟨h.1,hk _ h.2⟩
   .split
    .exactλh=>hk _ h
    .exactλh=>h
  .exactλh=>h
 .split
  .split
   .exactλh=>⟨h.1,h.2.1,hk _ h.2.2⟩
   .exactλh=>⟨h.1,h.2.1,hk _ h.2.2⟩
  .exactλh=>h
 .split
  .exactλh=>⟨h.1,hk _ h.2⟩
  .split
   .exactλh=>hk _ h
   .exactλh=>h
 .exactλh=>h
theorem nK: ∀(rs:List ResultVar) (es:List EV) {K:List EV->Prop},(∀l,zLb n s.h (KD (es.reverse++l)) R->K l)->zC8 T n s.t s.h R rs es->nR T s rs K
 | [],es,K,hk,h=>hk [] (by simpa[zC8] using h)
 | .tmp i::rs,es,K,hk,h=>by
  simp only[zC8,nR] at h ⊢;generalize look s.t i=d at h ⊢;cases d<;>simp only at h ⊢
  .exact nK rs _ (λl hl=>hk _ (by simpa using hl)) h
  .exact nK rs _ (λl hl=>hk _ (by simpa using hl)) h
 | .cell a ty::rs,es,K,hk,h=>by
  simp only[zC8,nR] at h ⊢;refine⟨h.1,FN (λd hd=>?_) h.2⟩;cases d<;>simp only at hd ⊢
  .exact nK rs _ (λl hl=>hk _ (by simpa using hl)) hd
  .exact nK rs _ (λl hl=>hk _ (by simpa using hl)) hd
theorem DY{rs:List ResultVar}{e:Exit}(h:ZK T n rs R e s):dpost T n rs R e s:=by
 cases e<;>simp only[ZK,dpost] at h ⊢
 case normal=>exact nK rs [] (λl hl=>zLb.fin (by simpa using hl)) h
 case ret=>exact nK rs [] (λl hl=>zLb.fin (by simpa using hl)) h
def jA: Nat->List DV->Fr
 | _,[]=>[]
 | i,d::l=>(i,d)::jA (i+1) l
theorem fK: ∀(l:List DV) (i:Nat),(l.zipIdx i).map (λp=>(p.2,p.1))=jA i l
 | [],_=>rfl
 | d::l,i=>by simp only[List.zipIdx_cons,List.map_cons,jA,fK l]
theorem ent (hT:bM P T) (hm:P.follows .mixedOrders=true) {f:FuncId} {fn:Func} {c:Code} {args:List DV} (hf:P.funcs[f]?=some fn) (hb:fn.body=some c)
 (hc:(Nat.ble args.length fn.ntmps && !(fn.name == "runtime.NumGoroutine"))=true)
 (hs:∀X0:Ctx,X0.h=h->vc P T X0 c ⟨fn.ntmps,jA 0 args,h⟩ (ZK T h.length fn.results.toList R)):aA P f args h R:=by
 simp only[Bool.and_eq_true,Bool.not_eq_true'] at hc;refine eM hT hf hb (Nat.le_of_ble_eq_true hc.1) hc.2 λX0 hX=>?_;rw[fK];exact fW (dP hT hm c (hs X0 hX)) λe s=>DY
end Go.Dm
end
section
namespace Go.Dm
open Go
section
variable {P:Program}{T:Tab}{X0:Ctx}
variable {ops:Array Oper}{rest l:List Oper}{n id n0 j:Nat}{t:Fr}{dst:Option Tmp}{K:DS->Prop}{s:DS}{Q:Exit->DS->Prop}{x y c:Code}{rs:List ResultVar}{R:DV->aD->Prop}{op:Op}{pos:String}{after:Array Edge}{h:aD}{b:Bool}{o:Oper}{d:DV}
inductive Later (p:Prop):Prop where
 | mk (h:p):Later p
theorem uL(p:Prop):Later p=p:=propext ⟨λ⟨h⟩=>h,.mk⟩
theorem nr{α:Sort _}{a b:α}(h:a=b):a=b:=h
def vsq(P:Program)(T:Tab)(X0:Ctx)(y:Code)(Q:Exit->DS->Prop):Exit->DS->Prop:=λe s'=>match e with
 | .normal=>Later (vc P T X0 y s' Q)
 | e=>Q e s'
def zC7(P:Program)(T:Tab)(X0:Ctx)(d:DV)(x y:Code)(s:DS)(Q:Exit->DS->Prop):Prop :=
 match d with
 | .c (.p (.b t))=>(t=true->vc P T X0 x s Q)/\(t=false->vc P T X0 y s Q)
 | _=>False
def zO3(P:Program)(T:Tab)(ops:Array Oper)(rest:List Oper)(n:Nat)(t:Fr)(dst:Option Tmp)(K:DS->Prop):DV->aD->Prop:=λd h'=>Later (jI P T ops rest (DS.put ⟨n,t,h'⟩ dst d h') K)
theorem LA{P:Program}{T:Tab}:zO3 P T ops rest n t dst K=λd h'=>jI P T ops rest (DS.put ⟨n,t,h'⟩ dst d h') K:=by
 funext d h';exact uL _
def kP(K:DV->aD->Prop)(h:aD):PV->Prop:=λx=>K (.c (.p x)) h
def kD(K:DV->aD->Prop)(h:aD):DV->Prop:=λd=>K d h
def kB(K:PV->Prop):Bool->Prop:=λb=>K (.b b)
def kN(K:PV->Prop):Bool->Prop:=λb=>K (.b (!b))
def kU(K:DV->aD->Prop):aD->Prop:=λh=>K (.tup []) h
def zBU(t:Fr):List Oper->Nat->Option DV
 | [],_=>none
 | o::_,0=>o.dst.map λi=>look t i
 | _::l,j+1=>zBU t l j
def nJ(P:Program)(T:Tab)(ops:Array Oper)(g:Option DV)(b:Bool)(op:Op)(t:Fr)(h:aD)(K:DV->aD->Prop):Prop :=
 match g with
 | some (.c (.p (.b v)))=>(v=b->dop P T op t h K)/\(v≠b->K (.tup []) h)
 | some (.tup [])=>K (.tup []) h
 | _=>False
def ZJ(d:DV)(a b:DV)(h:aD)(K:DV->aD->Prop):Prop :=
 match d with
 | .c (.p (.b v))=>(v=true->K a h)/\(v=false->K b h)
 | _=>False
theorem zNV: vc P T X0 .skip s Q=Q .normal s:=nr rfl
theorem zPN: vc P T X0 .ret s Q=Q .ret s:=nr rfl
theorem zNT: vc P T X0 (.exit id) s Q=Q (.exit id) s:=nr rfl
theorem zPO: vc P T X0 (.seq x y) s Q=vc P T X0 x s (vsq P T X0 y Q):=by
 have e:vsq P T X0 y Q=λe s'=>match e with
   | .normal=>vc P T X0 y s' Q
   | e=>Q e s':=by
  funext e s'
  cases e<;>first|rfl|exact uL _
 rw[e];rfl
theorem zKS: vc P T X0 (.block id c) s Q=vc P T X0 c s (mZ id Q):=nr rfl
theorem zNS{c:Operand}:vc P T X0 (.cond c x y) s Q=zC7 P T X0 (evD s.t c) x y s Q:=nr rfl
theorem zHA: vc P T X0 (.region id l.toArray false) s Q=jI P T l.toArray l s (Q .normal):=nr rfl
theorem zNU: vc P T X0 (.loop c) s Q=SWP P X0 (.loop c) s Q:=nr rfl
theorem zRd: vsq P T X0 y Q .normal s=vc P T X0 y s Q:=uL _
theorem zRe: vsq P T X0 y Q .ret s=Q .ret s:=nr rfl
theorem zRc: vsq P T X0 y Q (.exit id) s=Q (.exit id) s:=nr rfl
theorem qb_n: mZ id Q .normal s=Q .normal s:=nr rfl
theorem qb_r: mZ id Q .ret s=Q .ret s:=nr rfl
theorem qb_e{id':Nat}:mZ id Q (.exit id') s=if id'=id then Q .normal s else Q (.exit id') s:=nr rfl
theorem ql_e{α:Type}{I:α->DS}{J:α->Prop}{μ:α->Nat}{x:α}:zPp n0 I J μ x Q (.exit id) s=Q (.exit id) s:=nr rfl
theorem ql_r{α:Type}{I:α->DS}{J:α->Prop}{μ:α->Nat}{x:α}:zPp n0 I J μ x Q .ret s=Q .ret s:=nr rfl
theorem zN0: ZK T n rs R .normal s=zC8 T n s.t s.h R rs []:=nr rfl
theorem zN1: ZK T n rs R .ret s=zC8 T n s.t s.h R rs []:=nr rfl
theorem zNY: zC7 P T X0 (.c (.p (.b true))) x y s Q=vc P T X0 x s Q:=by simp[zC7]
theorem zNX: zC7 P T X0 (.c (.p (.b false))) x y s Q=vc P T X0 y s Q:=by simp[zC7]
theorem aH{t:Bool}(h1:t=true->vc P T X0 x s Q)(h2:t=false->vc P T X0 y s Q):zC7 P T X0 (.c (.p (.b t))) x y s Q:=⟨h1,h2⟩
theorem zPS: jI P T ops [] s K=K s:=nr rfl
theorem zPT{ty:TypeId}:
  jI P T ops ({ dst:=dst,op:=op,type:=ty,pos:=pos,after:=after,guard:=none }::rest) ⟨n,t,h⟩ K=dop P T op t h (zO3 P T ops rest n t dst K):=by rw[LA];rfl
theorem zKU{ty:TypeId}:
  jI P T l.toArray ({ dst:=dst,op:=op,type:=ty,pos:=pos,after:=after,guard:=some (j,b) }::rest) ⟨n,t,h⟩ K=nJ P T l.toArray (zBU t l j) b op t h (zO3 P T l.toArray rest n t dst K):=by
 have e:∀(l:List Oper) (j:Nat),((l[j]?).bind (·.dst)).map (λi=>look t i)=zBU t l j:=by
  intro l
  induction l with
  | nil=>intro j;rfl
  | cons o l ih=>intro j;cases j with
   | zero=>rfl
   | succ j=>exact ih j
 rw[LA];simp only[jI,List.getElem?_toArray,e];rfl
theorem zMG: zBU t (o::l) 0=o.dst.map λi=>look t i:=nr rfl
theorem zMF: zBU t (o::l) (j+1)=zBU t l j:=nr rfl
theorem zFG{i:Nat}(hi:i<n):zO3 P T ops rest n t (some i) K d h=jI P T ops rest ⟨n,(i,d)::t,h⟩ K:=by
 rw[LA];simp only[DS.put];rw[if_pos hi]
theorem zFF: zO3 P T ops rest n t none K d h=jI P T ops rest ⟨n,t,h⟩ K:=by rw[LA];rfl
theorem zQE{K:DV->aD->Prop}{x:PV}:kP K h x=K (.c (.p x)) h:=nr rfl
theorem zQC{K:DV->aD->Prop}:kD K h d=K d h:=nr rfl
theorem zQB{K:PV->Prop}:kB K b=K (.b b):=nr rfl
theorem zQD{K:PV->Prop}:kN K b=K (.b (!b)):=nr rfl
theorem zQF{K:DV->aD->Prop}:kU K h=K (.tup []) h:=nr rfl
section g
variable {ops:Array Oper}{op:Op}{t:Fr}{h:aD}{K:DV->aD->Prop}
variable {b v:Bool}{a x y c m i:Operand}{l:List Operand}{z:List PV}{parts:List (Nat × DV)}{n e len id off f ty:Nat}{o:BinOp}{K:DV->aD->Prop}{k:TI}{h:aD}{lo hi:Option Operand}{ats:Array TypeId}
theorem zRa: nJ P T ops (some (.c (.p (.b true)))) true op t h K=dop P T op t h K:=by simp[nJ]
theorem zQ7: nJ P T ops (some (.c (.p (.b false)))) false op t h K=dop P T op t h K:=by simp[nJ]
theorem zQ9: nJ P T ops (some (.c (.p (.b true)))) false op t h K=K (.tup []) h:=by simp[nJ]
theorem zQ8: nJ P T ops (some (.c (.p (.b false)))) true op t h K=K (.tup []) h:=by simp[nJ]
theorem zPQ: nJ P T ops (some (.tup [])) b op t h K=K (.tup []) h:=nr rfl
theorem aY(h1:v=true->nJ P T ops (some (.c (.p (.b v)))) b op t h K)(h2:v=false->nJ P T ops (some (.c (.p (.b v)))) b op t h K):nJ P T ops (some (.c (.p (.b v)))) b op t h K:=by
 cases v
 .exact h2 rfl
 .exact h1 rfl
theorem vp_t{a b:DV}:ZJ (.c (.p (.b true))) a b h K=K a h:=by simp[ZJ]
theorem vp_f{a b:DV}:ZJ (.c (.p (.b false))) a b h K=K b h:=by simp[ZJ]
section
variable {P:Program}{T:Tab}{X0:Ctx}
variable {ops:Array Oper}{op:Op}{t:Fr}{h:aD}{K:DV->aD->Prop}
end
theorem vp_b{x y:Bool}:ZJ (.c (.p (.b v))) (.c (.p (.b x))) (.c (.p (.b y))) h K=K (.c (.p (.b (bif v then x else y)))) h:=by cases v<;>simp[ZJ]
theorem zMe: dop P T (.move x) t h K=K (evD t x) h:=nr rfl
theorem zD9: dop P T (.assign x) t h K=K (evD t x) h:=nr rfl
theorem zMg{b:Operand}:dop P T (.pick c a b) t h K=ZJ (evD t c) (evD t a) (evD t b) h K:=nr rfl
def zHB(k:TK)(z:List PV)(h:aD)(K:DV->aD->Prop):Prop :=
 match k with
 | .no=>False
 | _=>K (.c (.ptr h.length 0)) (h++[.box (z.map .p)])
theorem zIk{ty:TypeId}:dop P T (.alloc ty) t h K=zHB (T ty).k (T ty).zero h K:=nr rfl
def zRm(o:Option (List CV))(h:aD)(K:DV->aD->Prop):Prop :=
 match o with
 | some ys=>K (.c (.ptr h.length 0)) (h++[.box ys])
 | none=>False
theorem zOB{ty:TypeId}:dop P T (.box ty x) t h K=zRm (cellsD (evD t x)) h K:=nr rfl
def zN9(t:Fr):List (Nat × Operand)->List (Nat × DV)
 | []=>[]
 | p::l=>(p.1,evD t p.2)::zN9 t l
theorem WX(t:Fr):∀l:List (Nat × Operand),(l.map λp=>(p.1,evD t p.2))=zN9 t l
 | []=>rfl
 | p::l=>by simp only[List.map_cons,zN9,WX t l]
def evL(t:Fr):List Operand->List DV
 | []=>[]
 | x::l=>evD t x::evL t l
theorem QC(t:Fr):∀l:List Operand,l.map (evD t)=evL t l
 | []=>rfl
 | x::l=>by simp only[List.map_cons,evL,QC t l]
def zHz(T:Tab)(k:TK)(z:List PV)(parts:List (Nat × DV))(h:aD)(K:DV->aD->Prop):Prop :=
 match k with
 | .struct fs=>(∀f∈fs,(T f.1).size≠0) /\
  match yG T (λi=>(fs[i]?).map λf=>(f.2,(T f.1).size)) (z.map .p) parts with
  | some cells=>K (.agg cells) h
  | none=>False
 | .array _ e=>(T e).size≠0 /\
  match yG T (λi=>some (i*(T e).size,(T e).size)) (z.map .p) parts with
  | some cells=>K (.agg cells) h
  | none=>False
 | _=>False
theorem zIl{ty:TypeId}{l:List (Nat × Operand)}:dop P T (.build ty l.toArray) t h K=zHz T (T ty).k (T ty).zero (zN9 t l) h K:=by
 rw[<- WX];rfl
def VH(T:Tab)(place:List (Nat × Nat)):List CV->List (Nat × DV)->Option (List CV)
 | cells,[]=>some cells
 | cells,(i,d)::rest =>
  match place[i]?,cellsD d with
  | some (ft,off),some ys=>if ys.length=(T ft).size/\off+(T ft).size<=cells.length then VH T place (splice cells off ys) rest else none
  | _,_=>none
theorem VI(T:Tab)(fs:List (Nat × Nat)):∀(parts:List (Nat × DV)) (cells:List CV),yG T (λi=>(fs[i]?).map λf=>(f.2,(T f.1).size)) cells parts=VH T fs cells parts
 | [],_=>rfl
 | (i,d)::rest,cells=>by
  simp only[yG,VH];cases fs[i]? with
  | none=>rfl
  | some f =>
   cases cellsD d with
   | none=>rfl
   | some ys=>simp only[Option.map_some];rw[VI T fs rest _]
def VF(sz:Nat):List CV->List (Nat × DV)->Option (List CV)
 | cells,[]=>some cells
 | cells,(i,d)::rest =>
  match cellsD d with
  | some ys=>if ys.length=sz/\i*sz+sz<=cells.length then VF sz (splice cells (i*sz) ys) rest else none
  | _=>none
theorem VG(T:Tab)(sz:Nat):∀(parts:List (Nat × DV)) (cells:List CV),yG T (λi=>some (i*sz,sz)) cells parts=VF sz cells parts
 | [],_=>rfl
 | (i,d)::rest,cells=>by
  simp only[yG,VF];cases cellsD d with
  | none=>rfl
  | some ys=>simp only;rw[VG T sz rest _]
def zRb(o:Option (List CV))(h:aD)(K:DV->aD->Prop):Prop :=
 match o with
 | some cells=>K (.agg cells) h
 | none=>False
theorem zHC{cells:List CV}:zRb (some cells) h K=K (.agg cells) h:=nr rfl
theorem zHy{fs:List (Nat × Nat)}:zHz T (.struct fs) z parts h K=((∀f∈fs,(T f.1).size≠0)/\zRb (VH T fs (z.map .p) parts) h K):=by
 rw[<- VI];rfl
theorem zKR: zHz T (.array n e) z parts h K=((T e).size≠0/\zRb (VF (T e).size (z.map .p) parts) h K):=by
 rw[<- VG T];rfl
theorem zEa{ty:TypeId}{l:List (Nat × Operand)}:dop P T (.buildSlice ty len l.toArray) t h K=AP T ty len (zN9 t l) h K:=by
 rw[<- WX];rfl
theorem zMc{ty:TypeId}:dop P T (.load ty a) t h K=((T ty).size≠0/\vY (T ty) h (evD t a) (kD K h)):=nr rfl
theorem zIp{ty:TypeId}{ok:Bool}:dop P T (.lookup ty m x ok) t h K=zDZ T (T ty).k h (evD t m) (evD t x) ok (kD K h):=nr rfl
theorem zMh{ty:TypeId}{v:Operand}:dop P T (.mapUpdate ty m x v) t h K=zD4 T (T ty).k h (evD t m) (evD t x) (evD t v) (kU K):=nr rfl
theorem zIq{ty:TypeId}:dop P T (.makeMap ty none) t h K=PN (T ty).k h K:=nr rfl
theorem zIs{ty:TypeId}:dop P T (.store ty a x) t h K=PT (T ty) h (evD t a) (evD t x) (kU K):=nr rfl
def zPR(d:DV)(h:aD)(K:DV->aD->Prop):Prop :=
 match d with
 | .c (.ptr id off) =>
  match h[id]? with
  | some (.box _)=>K (.c (.ptr id off)) h
  | _=>False
 | .c (.eptr cs)=>K (.c (.eptr cs)) h
 | .c (.clo f cap)=>K (.c (.clo f cap)) h
 | _=>False
theorem zMf: dop P T (.nilCheck x) t h K=zPR (evD t x) h K:=nr rfl
def zDd(P:Program)(ty:TypeId)(k:TI)(h:aD)(o:BinOp)(x y:DV)(K:DV->aD->Prop):Prop :=
 match zPn o x y with
 | some (id,b)=>zOg k.k (h[id]?) b h K
 | none=>PD o k x y (kP K h)∨zOs P o ty x y (kP K h)
theorem zOA{ty ty':TypeId}:dop P T (.binOp o ty x y ty') t h K=zDd P ty (T ty) h o (evD t x) (evD t y) K:=nr rfl
theorem zLe{ty:TypeId}{x:CV}{y:DV}{K:PV->Prop}:zOs P o ty (.c x) y K=False:=by
 refine eq_false ?_;rintro⟨xs,ys,b,h,_⟩;cases h
theorem NA{ty:TypeId}{xs ys:List CV}(ps qs:List PV)(b:Bool)(e1:xs=ps.map .p)(e2:ys=qs.map .p)(f1:ps.all (λx=>(gX x).isSome)=true)(f2:qs.all (λx=>(gX x).isSome)=true)(hE:zDg P ty ps qs b)(hK:(o=.eql/\K (.c (.p (.b b))) h)∨(o=.neq/\K (.c (.p (.b (!b)))) h)):zDd P ty k h o (.agg xs) (.agg ys) K:=by
 subst e1 e2;have:zPn o (.agg (ps.map .p)) (.agg (qs.map .p))=none:=by cases o<;>rfl
 unfold zDd;rw[this];exact .inr ⟨ps,qs,b,rfl,rfl,f1,f2,hE,hK⟩
theorem zPL{ty:TypeId}{x y:PV}:zDd P ty k h o (.c (.p x)) (.c (.p y)) K=PD o k (.c (.p x)) (.c (.p y)) (kP K h):=by
 have e:zDd P ty k h o (.c (.p x)) (.c (.p y)) K=(PD o k (.c (.p x)) (.c (.p y)) (kP K h)∨zOs P o ty (.c (.p x)) (.c (.p y)) (kP K h)):=by cases o<;>exact nr rfl
 rw[e,zLe,or_false]
theorem zPK{ty:TypeId}{y:PV}:zDd P ty k h o (.c (.own id off len)) (.c (.p y)) K=PD o k (.c (.own id off len)) (.c (.p y)) (kP K h):=by
 have e:zDd P ty k h o (.c (.own id off len)) (.c (.p y)) K=(PD o k (.c (.own id off len)) (.c (.p y)) (kP K h)∨zOs P o ty (.c (.own id off len)) (.c (.p y)) (kP K h)):=by cases o<;>exact nr rfl
 rw[e,zLe,or_false]
theorem zPJ{ty:TypeId}:zDd P ty k h .eql (.c (.ptr id off)) (.c (.p (.o (.pointer none)))) K=zOg k.k (h[id]?) false h K:=nr rfl
theorem zPM{ty:TypeId}:zDd P ty k h .neq (.c (.ptr id off)) (.c (.p (.o (.pointer none)))) K=zOg k.k (h[id]?) true h K:=nr rfl
theorem zPU{c:List CV}:zOg (.ptr e) (some (.box c)) b h K=K (.c (.p (.b b))) h:=nr rfl
theorem zKu{j a b:Nat}:zAW (.c (.own j a b)) id=(j==id):=nr rfl
theorem zKv{x:PV}:zAW (.c (.p x)) id=false:=nr rfl
attribute [go_sem] zPL zPK zPJ zPM zPU zKu zKv
theorem zQm{o:UnOp}{ty:TypeId}:dop P T (.unOp o ty x) t h K=dun o (evD t x) (kP K h):=nr rfl
theorem zL9{src dst:TypeId}:dop P T (.convert src dst x) t h K=zDQ T src dst (evD t x) h K:=nr rfl
def JS(t:Fr)(o:Option Operand)(d:Int):Option Int :=
 match o with
 | none=>some d
 | some x=>match evD t x with
  | .c (.p (.i _ n))=>some n
  | _=>none
def zHH(T:Tab)(k:TK)(h:aD)(x:DV)(lo hi:Int->Option Int)(K:DV->aD->Prop):Prop :=
 match k,x with
 | .str,.c (.p (.s l))=>match lo 0,hi l.length with
  | some a,some b=>0<=a/\a<=b/\b<=l.length/\K (.c (.p (.s ((l.take b.toNat).drop a.toNat)))) h
  | _,_=>False
 | .slice e,.c (.p (.sl k es))=>match lo 0,hi es.length with
  | some a,some b=>(T e).size≠0/\(T e).size=k/\0<=a/\a<=b/\b<=es.length/\K (.c (.p (.sl k ((es.take b.toNat).drop a.toNat)))) h
  | _,_=>False
 | .slice e,.c (.p .nil)=>match lo 0,hi 0 with
  | some a,some b=>(T e).size≠0/\0<=a/\a<=b/\b<=0/\K (.c (.p .nil)) h
  | _,_=>False
 | .slice e,.c (.own id off len) =>
  match h[id]? with
  | some (.arr k _ _)=>match lo 0,hi len with
   | some a,some b=>(T e).size≠0/\(T e).size=k/\0<=a/\a<=b/\b<=len/\K (.c (.own id (off+a.toNat) (b.toNat-a.toNat))) h
   | _,_=>False
  | _=>False
 | _,_=>False
theorem zLd(t:Fr)(o:Option Operand)(d:Int)(K:Int->Prop):bnd t o d K=match JS t o d with|some n=>K n|none=>False:=by
 cases o with
 | none=>rfl
 | some x =>
  simp only[bnd,JS];generalize evD t x=e;cases e with
  | c c=>cases c with
   | p p=>cases p<;>rfl
   | _=>rfl
  | _=>rfl
def zNZ(T:Tab)(k:TK)(h:aD)(x:DV)(lo hi mx:Int->Option Int)(K:DV->aD->Prop):Prop :=
 match k,x with
 | .slice e,.c (.p (.sl k es))=>match lo 0,hi (-1),mx (-1) with
  | some a,some b,some c=>(T e).size≠0/\(T e).size=k/\a=0/\b=c/\0<=b/\b<=es.length/\K (.c (.full k (es.take b.toNat))) h
  | _,_,_=>False
 | _,_=>False
theorem zMa{ty:TypeId}{mx:Operand}:dop P T (.slice ty x lo hi (some mx)) t h K=zNZ T (T ty).k h (evD t x) (JS t lo) (JS t hi) (JS t (some mx)) K:=by
 show zDT T ty (evD t x) (bnd t lo) (bnd t hi) (bnd t (some mx)) (λd=>K d h)=_;unfold zDT zNZ;simp only[zLd];generalize (T ty).k=k;generalize evD t x=d;cases k with
 | slice e=>cases d with
  | c c=>cases c with
   | p p=>cases p with
    | sl k es =>
     simp only;cases JS t lo 0<;>simp only[and_false];cases JS t hi (-1)<;>simp only[and_false];cases JS t (some mx) (-1)<;>simp only[and_false]
    | _=>rfl
   | _=>rfl
  | _=>rfl
 | _=>rfl
theorem zIr{ty:TypeId}:dop P T (.slice ty x lo hi none) t h K=zHH T (T ty).k h (evD t x) (JS t lo) (JS t hi) K:=by
 show PS T ty h (evD t x) (bnd t lo) (bnd t hi) (λd=>K d h)=_;unfold PS zHH;simp only[zLd];generalize (T ty).k=k;generalize evD t x=d;cases k with
 | str=>cases d with
  | c c=>cases c with
   | p p=>cases p with
    | s l =>
     simp only;cases JS t lo 0<;>simp only;cases JS t hi (l.length:Int)<;>rfl
    | _=>rfl
   | _=>rfl
  | _=>rfl
 | slice e=>cases d with
  | c c=>cases c with
   | p p=>cases p with
    | nil =>
     simp only;cases JS t lo 0<;>simp only[and_false];cases JS t hi 0<;>simp only[and_false]
    | sl k es =>
     simp only;cases JS t lo 0<;>simp only[and_false];cases JS t hi (es.length:Int)<;>simp only[and_false]
    | _=>rfl
   | own id off len =>
    simp only;cases h[id]? with
    | none=>rfl
    | some b=>cases b with
     | arr k es r =>
      simp only;cases JS t lo 0<;>simp only[and_false];cases JS t hi (len:Int)<;>simp only[and_false]
     | _=>rfl
   | _=>rfl
  | _=>rfl
 | _=>rfl
theorem zEb{s:Nat}:dop P T (.fieldAddr s x f) t h K=PH T s h (evD t x) f (kD K h):=nr rfl
def zLJ(T:Tab)(k:TK)(x:DV)(f:Nat)(K:DV->Prop):Prop :=
 match k,x with
 | .struct fs,.agg cells =>
  match fs[f]? with
  | some (ft,off)=>zEe (T ft) cells off K
  | none=>False
 | _,_=>False
theorem zIn: dop P T (.field ty x f) t h K=zLJ T (T ty).k (evD t x) f (kD K h):=nr rfl
theorem zEc: dop P T (.indexAddr ty x i) t h K=AW T ty h (evD t x) (evD t i) (kD K h):=nr rfl
theorem zIo: dop P T (.index ty x i) t h K=PJ T ty (evD t x) (evD t i) (kD K h):=nr rfl
def zA7(d:DV)(n:Nat)(h:aD)(K:DV->aD->Prop):Prop :=
 match d with
 | .tup xs =>
  match xs[n]? with
  | some e=>K e.toDV h
  | none=>False
 | _=>False
theorem zBA: dop P T (.extract x n) t h K=zA7 (evD t x) n h K:=nr rfl
def zQ6(f:FuncId)(c:Option (List KV))(h:aD)(K:DV->aD->Prop):Prop :=
 match c with
 | some cap=>K (.c (.clo f cap)) h
 | none=>False
theorem zMb{f:FuncId}:dop P T (.makeFunc (.func f) #[] l.toArray) t h K=zQ6 f (JT (evL t l)) h K:=by
 rw[<- QC];simp only[dop,zQ6];cases JT (List.map (evD t) l)<;>rfl
theorem zMd{l:Operand}:dop P T (.makeSlice ty l c) t h K=zD1 T ty (evD t l) (evD t c) h K:=nr rfl
def zPP(P:Program)(d:DV)(args:List DV)(h:aD)(K:DV->aD->Prop):Prop :=
 match d with
 | .c (.clo g cap)=>aA P g (args++cap.map KV.toDV) h K
 | _=>False
theorem zL8{f:Operand}:dop P T (.call { callee:=.value f,args:=l.toArray,argTypes:=ats }) t h K=zPP P (evD t f) (evL t l) h K:=by
 rw[<- QC];simp only[dop];rfl
theorem zOC{tys:List Nat}:dop P T (.call { callee:=.builtin .len,args:=[x].toArray,argTypes:=(ty::tys).toArray }) t h K=dlen (T ty) h (evD t x) (kD K h):=by
 simp only[dop];rfl
theorem zD8{tu:Nat}:dop P T (.call { callee:=.builtin .append,args:=[x,y].toArray,argTypes:=[ty,tu].toArray }) t h K=AN T ty tu (evD t x) (evD t y) h K:=by
 simp only[dop]
theorem zIm: dop P T (.call { callee:=.builtin .clear,args:=[x].toArray,argTypes:=[ty].toArray }) t h K=PG T ty (evD t x) h K:=by
 simp only[dop]
theorem zOE: dop P T (.call { callee:=.builtin .min,args:=l.toArray,argTypes:=ats }) t h K=dmm true (evL t l) (kD K h):=by
 rw[<- QC];simp only[dop];rfl
theorem zOD: dop P T (.call { callee:=.builtin .max,args:=l.toArray,argTypes:=ats }) t h K=dmm false (evL t l) (kD K h):=by
 rw[<- QC];simp only[dop];rfl
end g
section b
variable {k:IntKind}{a b:Int}{x y:List UInt8}{K:PV->Prop}{T0:TI}
variable {op:BinOp}{k':IntKind}
theorem db_i(h1:op≠.shl)(h2:op≠.shr):PD op T0 (.c (.p (.i k a))) (.c (.p (.i k' b))) K=(k=k'/\zOy op k a b K):=by
 cases op<;>first|rfl|exact absurd rfl h1|exact absurd rfl h2
theorem zOu: PD .shl T0 (.c (.p (.i k a))) (.c (.p (.i k' b))) K=(0<=b/\K (.i k (k.wrap (a*2 ^ (min b.toNat k.bits))))):=nr rfl
theorem zOv: PD .shr T0 (.c (.p (.i k a))) (.c (.p (.i k' b))) K=(0<=b/\K (.i k (a.fdiv (2 ^ (min b.toNat k.bits))))):=nr rfl
theorem db_s: PD op T0 (.c (.p (.s x))) (.c (.p (.s y))) K=zOK op x y K:=nr rfl
theorem db_f{x y:Nat}:PD op T0 (.c (.p (.f x))) (.c (.p (.f y))) K=zOw op x y K:=nr rfl
def vbb(k:TK)(op:BinOp)(a b:Bool)(K:PV->Prop):Prop :=
 match k,op with
 | .bool,.eql=>K (.b (a==b))
 | .bool,.neq=>K (.b (!(a==b)))
 | _,_=>False
theorem db_b{x y:Bool}:PD op T0 (.c (.p (.b x))) (.c (.p (.b y))) K=vbb T0.k op x y K:=nr rfl
def vnl(k:TK)(op:BinOp)(x:PV)(K:PV->Prop):Prop :=
 match k,op with
 | .slice _,.eql=>zF9 x (kB K)
 | .slice _,.neq=>zF9 x (kN K)
 | _,_=>False
theorem db_n{x:PV}:PD op T0 (.c (.p x)) (.c (.p .nil)) K=vnl T0.k op x K:=by
 cases x<;>rfl
end b
end
end Go.Dm
end
section
namespace Go.Dm
open Go
theorem wrap_u64{n:Int}(h1:0<=n)(h2:n<=18446744073709551615):IntKind.u64.wrap n=n:=by
 simp only[IntKind.wrap,IntKind.bits,IntKind.signed,Bool.false_and,Bool.false_eq_true,if_false];omega
theorem wrap_u8{n:Int}(h1:0<=n)(h2:n<=255):IntKind.u8.wrap n=n:=by
 simp only[IntKind.wrap,IntKind.bits,IntKind.signed,Bool.false_and,Bool.false_eq_true,if_false];omega
theorem zK7(b:UInt8):IntKind.u8.wrap (b.toNat:Int)=b.toNat:=wrap_u8 (by omega) (by have:=b.toNat_lt;omega)
theorem zHP(b:UInt8):IntKind.i64.wrap (b.toNat:Int)=b.toNat:=wrap_i64 (by omega) (by have:=b.toNat_lt;omega)
theorem zHQ(b:UInt8):IntKind.u64.wrap (b.toNat:Int)=b.toNat:=wrap_u64 (by omega) (by have:=b.toNat_lt;omega)
def VS(h':aD)(dst:Option Tmp)(v:DV):DS->Prop:=λs'=>s'.h=h'/\res s' dst=v
section
variable {P:Program}{T:Tab}{X0:Ctx}
variable {h h':aD}{i n id:Nat}{v:DV}{t:Fr}{l:List Oper}{rest chain:List Nat}{K:DS->Prop}{o:Oper}{old:List aD}{Q:Exit->DS->Prop}
theorem zFA: VS h' (some i) v ⟨n,t,h⟩=(h=h'/\look t i=v):=nr rfl
theorem zFz: VS h' none v ⟨n,t,h⟩=(h=h'/\.tup []=v):=nr rfl
theorem RE{S:List Nat}{j:Nat}(h:S.contains j=true):look (keep S t) j=look t j:=by rw[uO,if_pos h]
theorem zMk(v:DV)(ho:l[i]?=some o)
 (h1:∀S:List Nat,S=o.looksAt l.toArray->jI P T l.toArray [o] ⟨n,keep S t,h⟩ (VS h o.dst v))(h3:yH P T l.toArray n [] K rest (VW t o.dst v) [h]):yH P T l.toArray n [] K (i::rest) t [h] :=
 PR v (by simpa using ho) rfl (h1 _ rfl) (by simp) h3
theorem zMl(v:DV)(ho:l[i]?=some o)(hc:chain.contains i=false)
 (h1:∀S:List Nat,S=o.looksAt l.toArray->∀h0∈h::old.take (old.length-zO4 l.toArray chain i),jI P T l.toArray [o] ⟨n,keep S t,h0⟩ (VS h0 o.dst v))(h3:yH P T l.toArray n chain K rest (VW t o.dst v) (h::old)):
  yH P T l.toArray n chain K (i::rest) t (h::old) :=
 PR v (by simpa using ho) hc (h1 _ rfl h (by simp)) (λh0 hh=>h1 _ rfl h0 (by simp[hh])) h3
theorem zQn(v:DV)(h':aD)(ho:l[i]?=some o)(hc:chain.contains i=true)
 (h1:∀S:List Nat,S=o.looksAt l.toArray->jI P T l.toArray [o] ⟨n,keep S t,h⟩ (VS h' o.dst v))(h3:yH P T l.toArray n chain K rest (VW t o.dst v) (h' :: h::old)):
  yH P T l.toArray n chain K (i::rest) t (h::old) :=
 zMm v h' (by simpa using ho) hc (h1 _ rfl) h3
theorem aT(hk:K ⟨n,t,h⟩):yH P T l.toArray n chain K [] t (h::old):=zIv hk
theorem zKT{ops:Array Oper}{s:DS}:vc P T X0 (.region id ops true) s Q=SWP P X0 (.region id ops true) s Q:=nr rfl
theorem aG(hT:bM P T)(hm:P.follows .mixedOrders=true)(chain order:List Nat)(hp:zAO l.toArray n chain order=true)(hd:yH P T l.toArray n chain (Q .normal) order t [h]):
  SWP P X0 (.region id l.toArray true) ⟨n,t,h⟩ Q:=zHa hT hm chain order hp hd
theorem aC: VW t (some i) v=(i,v)::t:=nr rfl
theorem bH: VW t none v=t:=nr rfl
end
section use
variable {P:Program}{f:FuncId}{args args':List DV}{h:aD}{r:DV}{K:DV->aD->Prop}
theorem mH(hc:aA P f args [] λd h'=>d=r/\h'=[])(hp:iF h args=some args)(hfl:QH r=true)(hk:K r h):aA P f args h K:=aA.useFlat hc hp hfl hk
theorem xE(hc:aA P f args [] λd h'=>d=r/\h'=[])(hp:iF h args=some args)(hsh:∀n,r.sh n=r)(hk:K r (sN h (lZ args))):aA P f args h K:=aA.use hc hp hsh hk
theorem zHt{α:Type}{C:α->Prop}{e:α->DV}(hc:aA P f args [] λd h'=>∃x,C x/\d=e x/\h'=[])(hp:iF h args=some args)(hfl:∀x,C x->QH (e x)=true)(hk:∀x,C x->K (e x) h):aA P f args h K :=
 (aA.flat h hp (λd h0 ⟨x,hx,hd,_⟩=>by rw[hd];exact hfl x hx) hc).mono λd h' ⟨⟨h0,x,hx,h1,h2⟩,h3⟩=>by
  rw[h1,h3];exact hk x hx
section
variable {P:Program}{f:FuncId}{args args':List DV}{h:aD}{r:DV}{K:DV->aD->Prop}
end
theorem aA.frz(hne:(lZ args).isEmpty=false)(hp:iF h args=some args')(hd:aA P f args' (sN h (lZ args)) K):aA P f args h K:=by
 intro X vals hh hi gd hr;obtain⟨X',h1,h2,h3,h4,h5,h6⟩:=jD (lZ args) hi;rw[<- hh] at hp hd;have hr':dI X' args' vals:=mL (Y:=X') hi h4 h1 rfl rfl hr hp h6;have key:∀v w',Ret X' K v w'->Ret X K v w':=λv w' ⟨d,Y,k1,k2,k3,k4,k5⟩=>⟨d,Y,k1,k2,h4.trans h5 k3,k4,k5⟩;rw[<- h1];rcases hd X' vals h2 h5 (gd.step h4) hr' with⟨h7,h8⟩|⟨v,w',h7,h8⟩
 .exact .inl ⟨h7,h8.mono λe w' ⟨v,he,hv⟩=>⟨v,he,key _ _ hv⟩⟩
 .exact .inr ⟨v,w',h7,key _ _ h8⟩
end use
attribute [go_sem] Nat.zero_add Nat.add_zero Nat.mul_one zIw List.take_length List.drop_zero List.length_map
attribute [go_sem] cond_true cond_false
attribute [go_sem] wrap_i64 wrap_u64 wrap_u8 zK7 zHP zHQ zNV zPN zNT zPO zKS zNS zHA zKT zNU zRd zRe zRc qb_n qb_r qb_e ql_e ql_r zN0 zN1 zNY zNX zPS zPT zKU zMG zMF
 zFG zFF zQE zQC zQB zQD zQF zRa zQ7 zQ9 zQ8 zPQ vp_t vp_f vp_b zMe zD9 zMg zHB zIk zRm zOB zN9 evL zIl VH VF zHC zHy zKR zEa
 zMc zIs zPR zMf zOA zQm zL9 JS zHH zIr zNZ zMa zEb zLJ zIn zEc zIo zA7 zBA zQ6 zMb zMd zPP zL8 zOC zD8 zIm zOE zOD
 db_i zOu zOv db_s db_f vbb db_b vnl db_n zFA zFz aC bH
attribute [go_sem] zIp zMh zIq zDZ zD4 PN zOX zM6 zPe zPf zPg zJU
attribute [go_sem] zC8 zLb KD zMx zE4 zJb zBK NY aI zOy zOw zOK dun vY PT PH zEe AW PJ zDQ AP dlen AN PG BB dmm zD1 cellsD EV.toDV KV.toDV JT zLV zLU TK.agg splice cellss zLv pvs SK zMI BM zFm
 zGU WU iF WK zJa FP zNj zOx lZ zQo zBE sN zHU bP aJ iI pD jA zJV RS YB zGa zGb xH jO DV.sh CV.sh EV.sh KV.sh zJf QG zFb QH
attribute [go_sem] List.getElem?_cons_zero List.getElem?_cons_succ List.map_cons List.map_nil List.take_succ_cons List.take_zero List.take_nil List.drop_succ_cons List.drop_zero List.drop_nil List.nil_append List.cons_append List.append_nil List.set_cons_zero List.set_cons_succ
 List.length_cons List.length_nil List.length_append List.length_singleton List.all_cons List.all_nil List.reverse_cons List.reverse_nil Option.map_some Option.map_none Option.bind_some List.getD_cons_zero List.getD_cons_succ List.isEmpty_nil
 ne_eq not_false_eq_true not_true_eq_false true_and and_true false_and and_false reduceCtorEq decide_true decide_false Bool.false_eq_true Int.toNat_natCast Bool.not_true Bool.not_false eq_self true_implies false_implies List.forall_mem_cons forall_const implies_true List.not_mem_nil List.mem_cons or_false forall_eq_or_imp forall_eq Int.cast_ofNat_Int
 List.toList_toArray Bool.and_true Bool.true_and Bool.and_false Bool.false_and Bool.or_false Bool.or_true Bool.true_or Bool.false_or
end Go.Dm
end
section
namespace Go.Dm
open Go
section
variable {P:Program}{T:Tab}{X0:Ctx}{c:Code}{Q:Exit->DS->Prop}
variable {n:Nat}{s:DS}{t t':Fr}{h:aD}
def VR(P:Program)(T:Tab)(X0:Ctx)(c:Code)(Q:Exit->DS->Prop):Nat->DS->Prop
 | 0,_=>False
 | n+1,s=>vc P T X0 c s λe s'=>match e with
  | .normal=>VR P T X0 c Q n s'
  | e=>Q e s'
def QU(P:Program)(T:Tab)(X0:Ctx)(c:Code)(Q:Exit->DS->Prop)(n:Nat):Exit->DS->Prop:=λe s'=>match e with
 | .normal=>Later (VR P T X0 c Q n s')
 | e=>Q e s'
theorem zLP: VR P T X0 c Q (n+1) s=vc P T X0 c s (QU P T X0 c Q n):=by
 have e:QU P T X0 c Q n=λe s'=>match e with
   | .normal=>VR P T X0 c Q n s'
   | e=>Q e s':=by
  funext e s'
  cases e<;>first|rfl|exact uL _
 rw[e];rfl
theorem kr_n: QU P T X0 c Q n .normal s=VR P T X0 c Q n s:=uL _
theorem kr_r: QU P T X0 c Q n .ret s=Q .ret s:=nr rfl
theorem kr_e{id:Nat}:QU P T X0 c Q n (.exit id) s=Q (.exit id) s:=nr rfl
theorem dM(hT:bM P T)(hm:P.follows .mixedOrders=true)(n:Nat)(h:VR P T X0 c Q n s):SWP P X0 (.loop c) s Q:=by
 intro gd X a hh hi hs ht;refine wp_loop_rounds n ?_
 induction n generalizing s X a with
 | zero=>exact h.elim
 | succ n ih =>
  refine wp_mono (dP hT hm c h gd X a hh hi hs ht) λe a' w' hp=>?_;obtain⟨s',Z,p1,rfl,p3,p4,p5,p6⟩:=hp;cases e<;>simp only[Exit.then] at p1 ⊢
  case normal=>exact ih p1 Z a' p3 p4 p5 p6
  all_goals exact⟨s',Z,p1,rfl,p3,p4,p5,p6⟩
section
variable {P:Program}{T:Tab}{X0:Ctx}{c:Code}{Q:Exit->DS->Prop}
end
section
variable {P:Program}{T:Tab}{X0:Ctx}{c:Code}{Q:Exit->DS->Prop}
end
theorem aB{n0:Nat}{h':aD}(h0:(Nat.ble n0 h'.length)=true)(h1:h'=h.take h'.length)(h2:h'.all (bP h'.length)=true)(h3:WkT h'.length t t'):FE n0 ⟨n,t,h⟩ ⟨n,t',h'⟩ :=
 ⟨rfl,Nat.le_of_ble_eq_true h0,h1,h2,h3⟩
theorem aX: WkT n t []=True:=nr rfl
theorem aQ{i:Nat}{d:DV}:WkT n t ((i,d)::t')=((look t i=d/\aL n d=true)/\WkT n t t'):=nr rfl
theorem dQ(hT:bM P T)(hm:P.follows .mixedOrders=true)(i k:Nat)(hn:look t i=.c (.p .nil))(hd:SWP P X0 c ⟨n,(i,.c (.own h.length 0 0))::t,h++[.arr k [] false]⟩ Q):SWP P X0 c ⟨n,t,h⟩ Q :=
 zKJ i k hn hd
end
theorem zHM{k:Nat}:wkD (.c (.p .nil)) (.c (.p (.sl k []))):=ZN
theorem zHN{x:PV}:wkD (.c (.p x)) (.c (.p x)):=wkP.rfl
theorem allB(l:List UInt8):(∀x∈bU l,x.length=1)=True:=eq_true (zIx l)
theorem zAi(a b:List UInt8):bU a++bU b=bU (a++b):=(WV a b).symm
theorem zOq(n:Int)(l:List UInt8)(h1:0<=n)(h2:n<=255):[PV.i .u8 n]::bU l=bU (UInt8.ofNat n.toNat::l):=by
 simp only[bU,List.map_cons]
 congr 2
 have:(UInt8.ofNat n.toNat).toNat=n.toNat:=by rw[UInt8.toNat_ofNat'];omega
 rw[this]
 congr 1
 omega
theorem zNK{α:Type}(n:Nat)(a:α)(l:List α):List.take (1+n) (a::l)=a::List.take n l:=by rw[Nat.add_comm];rfl
theorem zNL{α:Type}(n:Nat)(a:α)(l:List α):List.take (2+n) (a::l)=a::List.take (1+n) l:=by rw[show 2+n=(1+n)+1 by omega];rfl
theorem zNM{α:Type}(n:Nat)(a:α)(l:List α):List.take (3+n) (a::l)=a::List.take (2+n) l:=by rw[show 3+n=(2+n)+1 by omega];rfl
attribute [go_sem] zOq zNK zNL zNM
attribute [go_sem] zEl zEi allB zAi
attribute [go_sem] exists_eq_right wkD wkE zN2 wkC zHW wkP
attribute [go_sem] zLP kr_n kr_r kr_e aX aQ aL
end Go.Dm
end
section
namespace Go.Dm
open Go
section
variable {P:Program}{T:Tab}{X0:Ctx}
variable {S rest chain:List Nat}{t:Fr}{h:aD}{K:DS->Prop}{l:List Oper}{o:Oper}{n i:Nat}{old:List aD}{p:aD->Prop}
theorem zJc{x:Operand}(h:∀i,x=.tmp i->S.contains i=true):evD (keep S t) x=evD t x:=by
 cases x with
 | tmp i=>simp only[evD];exact RE (h i rfl)
 | _=>rfl
theorem zIt{op:Op}{K:DV->aD->Prop}(hS:∀x∈op.operands.toList,∀i,x=.tmp i->S.contains i=true):dop P T op (keep S t) h K=dop P T op t h K:=by
 have e:∀x∈op.operands.toList,evD (keep S t) x=evD t x:=λx hx=>zJc (hS x hx);have em:∀l:List Operand,(∀x∈l,x∈op.operands.toList)->l.map (evD (keep S t))=l.map (evD t):=λl hl=>List.map_congr_left λx hx=>e x (hl x hx);cases op with
 | move x=>simp only[dop,e x (by simp[Op.operands])]
 | assign x=>simp only[dop,e x (by simp[Op.operands])]
 | pick c a b=>simp only[dop,e c (by simp[Op.operands]),e a (by simp[Op.operands]),e b (by simp[Op.operands])]
 | alloc ty=>rfl
 | box ty x=>simp only[dop,e x (by simp[Op.operands])]
 | build ty ps =>
  simp only[dop];rw[List.map_congr_left (g:=λp=>(p.1,evD t p.2)) λp hp=>by rw[e p.2 (by simp only[Op.operands,List.toList_toArray,List.mem_map];exact⟨p,hp,rfl⟩)]]
 | buildSlice ty n ps =>
  simp only[dop];rw[List.map_congr_left (g:=λp=>(p.1,evD t p.2)) λp hp=>by rw[e p.2 (by simp only[Op.operands,List.toList_toArray,List.mem_map];exact⟨p,hp,rfl⟩)]]
 | load ty x=>simp only[dop,e x (by simp[Op.operands])]
 | store ty a v=>simp only[dop,e a (by simp[Op.operands]),e v (by simp[Op.operands])]
 | nilCheck x=>simp only[dop,e x (by simp[Op.operands])]
 | binOp o ty a v ty'=>simp only[dop,e a (by simp[Op.operands]),e v (by simp[Op.operands])]
 | unOp o ty x=>simp only[dop,e x (by simp[Op.operands])]
 | convert s d x=>simp only[dop,e x (by simp[Op.operands])]
 | slice ty x lo hi mx =>
  have e1:=e x (by simp[Op.operands]);have e2:∀d K,bnd (keep S t) lo d K=bnd t lo d K:=λd K=>by
   cases lo with
   | none=>rfl
   | some y=>simp only[bnd,e y (by simp[Op.operands])]
  have e3:∀d K,bnd (keep S t) hi d K=bnd t hi d K:=λd K=>by
   cases hi with
   | none=>rfl
   | some y=>simp only[bnd,e y (by simp[Op.operands])]
  have e4:∀d K,bnd (keep S t) mx d K=bnd t mx d K:=λd K=>by
   cases mx with
   | none=>rfl
   | some y=>simp only[bnd,e y (by simp[Op.operands])]
  have e2:bnd (keep S t) lo=bnd t lo:=funext λd=>funext λK=>e2 d K;have e3:bnd (keep S t) hi=bnd t hi:=funext λd=>funext λK=>e3 d K;have e4:bnd (keep S t) mx=bnd t mx:=funext λd=>funext λK=>e4 d K;cases mx with
  | some y =>
   simp only[dop];rw[e2,e3,e4,e1]
  | none =>
   simp only[dop];rw[e2,e3,e1]
 | fieldAddr s x f=>simp only[dop,e x (by simp[Op.operands])]
 | field ty x f=>simp only[dop,e x (by simp[Op.operands])]
 | indexAddr ty a v=>simp only[dop,e a (by simp[Op.operands]),e v (by simp[Op.operands])]
 | index ty a v=>simp only[dop,e a (by simp[Op.operands]),e v (by simp[Op.operands])]
 | extract x n=>simp only[dop,e x (by simp[Op.operands])]
 | makeFunc f first cap =>
  cases f with
  | func f =>
   simp only[dop];rw[em cap.toList λx hx=>by simp only[Op.operands,Array.toList_append,List.mem_append];exact .inr hx]
  | _=>rfl
 | makeSlice ty a v=>simp only[dop,e a (by simp[Op.operands]),e v (by simp[Op.operands])]
 | makeMap ty r =>
  cases r with
  | none=>rfl
  | some _=>rfl
 | lookup ty m x ok=>simp only[dop,e m (by simp[Op.operands]),e x (by simp[Op.operands])]
 | mapUpdate ty m x v=>simp only[dop,e m (by simp[Op.operands]),e x (by simp[Op.operands]),e v (by simp[Op.operands])]
 | call c =>
  obtain ⟨cal,args,ats⟩:=c;have ea:args.toList.map (evD (keep S t))=args.toList.map (evD t):=em _ λx hx=>by
   simp only[Op.operands,Call.operands,Array.toList_append,List.mem_append];exact .inr hx
  cases cal with
  | value f =>
   have ef:=e f (by simp[Op.operands,Call.operands]);simp only[dop,ea,ef]
  | invoke r m=>rfl
  | builtin b =>
   have eone:∀x∈args.toList,evD (keep S t) x=evD t x:=λx hx=>e x (by simp only[Op.operands,Call.operands,Array.toList_append,List.mem_append];exact .inr hx);cases b with
   | len =>
    simp only[dop];split
    .rename_i hx;rw[eone _ (by rw[hx];simp)]
    .rfl
   | append =>
    simp only[dop];split
    .rename_i hx;rw[eone _ (by rw[hx];simp),eone _ (by rw[hx];simp)]
    .rfl
   | clear =>
    simp only[dop];split
    .rename_i hx;rw[eone _ (by rw[hx];simp)]
    .rfl
   | min=>simp only[dop,ea]
   | max=>simp only[dop,ea]
   | _=>rfl
 | _=>rfl
theorem AY{h':aD}{v:DV}(hS:S=o.looksAt l.toArray)(hn:(match o.dst with|some i=>Nat.blt i n|none=>true)=true)
 (hd:jI P T l.toArray [o] ⟨n,t,h⟩ (VS h' o.dst v)):jI P T l.toArray [o] ⟨n,keep S t,h⟩ (VS h' o.dst v):=by
 have hop:∀K,dop P T o.op (keep S t) h K=dop P T o.op t h K:=λK=>zIt λx hx i hi=>by
  subst hi;subst hS;simp only[Oper.looksAt,List.contains_eq_mem,List.mem_append,decide_eq_true_eq];exact .inl (List.mem_filterMap.2 ⟨_,hx,rfl⟩)
 have hk:∀d h0,VS h' o.dst v (DS.put ⟨n,keep S t,h⟩ o.dst d h0)=VS h' o.dst v (DS.put ⟨n,t,h⟩ o.dst d h0):=by
  intro d h0;cases hd':o.dst with
  | none=>rfl
  | some i =>
   rw[hd'] at hn;have hi:i<n:=Nat.blt_eq.mp hn;simp only[DS.put,if_pos hi,VS,res,aI,if_true]
 have hk':(λd h0=>jI P T l.toArray [] (DS.put ⟨n,keep S t,h⟩ o.dst d h0) (VS h' o.dst v))=λd h0=>jI P T l.toArray [] (DS.put ⟨n,t,h⟩ o.dst d h0) (VS h' o.dst v):=by
  funext d h0;exact hk d h0
 simp only[jI] at hd ⊢;cases hg:o.guard with
 | none =>
  simp only[hg] at hd ⊢;rw[hop];simp only[hk];exact hd
 | some g =>
  obtain ⟨j,b⟩:=g;simp only[hg] at hd ⊢;have hgv:((l.toArray[j]?).bind (·.dst)).map (λi=>look (keep S t) i)=((l.toArray[j]?).bind (·.dst)).map λi=>look t i:=by
   cases hy:(l.toArray[j]?).bind (·.dst) with
   | none=>rfl
   | some i =>
    simp only[Option.map_some];rw[RE];subst hS;simp only[Oper.looksAt,hg,hy,List.contains_eq_mem,List.mem_append,decide_eq_true_eq];exact .inr (by simp)
  rw[hgv];simp only[hop,hk];exact hd
theorem bL(v:DV)(ho:l[i]?=some o)(hn:(match o.dst with|some i=>Nat.blt i n|none=>true)=true)
 (h1:jI P T l.toArray [o] ⟨n,t,h⟩ (VS h o.dst v))(h3:yH P T l.toArray n [] K rest (VW t o.dst v) [h]):yH P T l.toArray n [] K (i::rest) t [h] :=
 zMk v ho (λ_ hS=>AY hS hn h1) h3
theorem cK(v:DV)(h':aD)(ho:l[i]?=some o)(hn:(match o.dst with|some i=>Nat.blt i n|none=>true)=true)(hc:chain.contains i=true)
 (h1:jI P T l.toArray [o] ⟨n,t,h⟩ (VS h' o.dst v))(h3:yH P T l.toArray n chain K rest (VW t o.dst v) (h' :: h::old)):yH P T l.toArray n chain K (i::rest) t (h::old) :=
 zQn v h' ho hc (λ_ hS=>AY hS hn h1) h3
theorem zOJ(v:DV)(ho:l[i]?=some o)(hn:(match o.dst with|some i=>Nat.blt i n|none=>true)=true)(hc:chain.contains i=false)
 (h1:∀h0∈h::old.take (old.length-zO4 l.toArray chain i),jI P T l.toArray [o] ⟨n,t,h0⟩ (VS h0 o.dst v))(h3:yH P T l.toArray n chain K rest (VW t o.dst v) (h::old)):yH P T l.toArray n chain K (i::rest) t (h::old) :=
 zMl v ho hc (λ_ hS h0 hh=>AY hS hn (h1 h0 hh)) h3
theorem cJ(v:DV)(ho:l[i]?=some o)(hn:(match o.dst with|some i=>Nat.blt i n|none=>true)=true)(hc:chain.contains i=false)
 (h1:∀h0∈h::old,jI P T l.toArray [o] ⟨n,t,h0⟩ (VS h0 o.dst v))(h3:yH P T l.toArray n chain K rest (VW t o.dst v) (h::old)):yH P T l.toArray n chain K (i::rest) t (h::old) :=
 zOJ v ho hn hc (λh0 hh=>h1 h0 (by
  rcases List.mem_cons.1 hh with e|e
  .exact e▸List.mem_cons_self
  .exact List.mem_cons_of_mem _ (List.mem_of_mem_take e))) h3
theorem bA: ∀h∈([]:List aD),p h:=λ_ h=>by cases h
theorem aW{l:List aD}(h1:p h)(h2:∀x∈l,p x):∀x∈h::l,p x:=λx hx=>by
 rcases List.mem_cons.1 hx with e|e
 .exact e▸h1
 .exact h2 x e
end
end Go.Dm
end
section
namespace Go.Dm
open Go
def zPs(a b:Nat):KV->Bool
 | .p _=>true
 | .ptr i _=>decide (i≠a) && decide (i≠b)
def EH(a b:Nat):CV->Option CV
 | .p x=>some (.p x)
 | .own i off len=>if i=b then some (.own a off len) else if i=a then none else some (.own i off len)
 | .ptr i off=>if i=a then none else if i=b then none else some (.ptr i off)
 | .aptr i x y=>if i=a then none else if i=b then none else some (.aptr i x y)
 | .mp i=>if i=a then none else if i=b then none else some (.mp i)
 | .bs i n=>if i=a then none else if i=b then none else some (.bs i n)
 | .eptr cs=>some (.eptr cs)
 | .full k es=>some (.full k es)
 | .clo f cap=>if cap.all (zPs a b) then some (.clo f cap) else none
def wQ(a b:Nat):List CV->Option (List CV)
 | []=>some []
 | c::cs=>match EH a b c,wQ a b cs with
  | some x,some xs=>some (x::xs)
  | _,_=>none
def CY(a b:Nat):DV->DV
 | .jk=>.jk
 | .c x=>match EH a b x with
  | some y=>.c y
  | none=>.jk
 | .agg xs=>match wQ a b xs with
  | some ys=>.agg ys
  | none=>.jk
 | .tup []=>.tup []
 | .tup _=>.jk
def EI(a b:Nat):Fr->Fr
 | []=>[]
 | p::t=>(p.1,CY a b p.2)::EI a b t
def renB(a b:Nat):DB->DB
 | .box cells=>match wQ a b cells with
  | some c=>.box c
  | none=>.dead
 | x=>x
def zLy(a b:Nat):aD->aD
 | []=>[]
 | x::l=>renB a b x::zLy a b l
def zNi(a b:Nat)(h:aD):aD:=((zLy a b h).set a (h.getD b .dead)).set b .dead
theorem zM(a b:Nat)(i:Nat):∀t:Fr,look (EI a b t) i=CY a b (look t i)
 | []=>rfl
 | p::t=>by
  simp only[EI,look];split
  .rfl
  .exact zM a b i t
theorem zGO(a b:Nat):∀(h:aD) (i:Nat),(zLy a b h)[i]?=(h[i]?).map (renB a b)
 | [],i=>by simp[zLy]
 | x::l,0=>rfl
 | x::l,i+1=>by simp only[zLy,List.getElem?_cons_succ];exact zGO a b l i
theorem MC(a b:Nat):∀h:aD,(zLy a b h).length=h.length
 | []=>rfl
 | x::l=>by simp[zLy,MC a b l]
theorem lT(a b:Nat)(h:aD):(zNi a b h).length=h.length:=by simp[zNi,MC]
theorem kR{a b:Nat}{x:DB}(h:(renB a b x).live=true):x.live=true/\(renB a b x).fix=x.fix:=by
 cases x with
 | box cells=>exact⟨rfl,by simp only[renB];split<;>rfl⟩
 | dead=>simp[renB,DB.live] at h
 | arr k es r=>exact⟨rfl,rfl⟩
 | mp es=>exact⟨rfl,rfl⟩
def Ctx.ren(X:Ctx)(a b:Nat):Ctx:=⟨X.w,X.S,λi=>if i=a then X.G b else X.G i,zNi a b X.h⟩
section
variable {X:Ctx}{a b:Nat}
variable {v:Value}{kb:Nat}{eb:List (List PV)}
theorem hZ{h:aD}(hab:a≠b){i:Nat}{db:DB}(hd:(zNi a b h)[i]?=some db)(hl:db.live=true):(i=a/\h[b]?=some db/\a<h.length)∨(i≠a/\i≠b/\∃x,h[i]?=some x/\db=renB a b x):=by
 unfold zNi at hd;rcases cG hd with⟨rfl,rfl,_⟩|⟨hne,hd⟩
 .simp[DB.live] at hl
 .rcases cG hd with⟨rfl,rfl,hlt⟩|⟨hne2,hd⟩
  .left;refine⟨rfl,?_,by simpa[MC] using hlt⟩
   rw[List.getD_eq_getElem?_getD] at hl ⊢;cases hb:h[b]? with
   | none=>rw[hb] at hl;simp[DB.live] at hl
   | some x=>rfl
  .right;rw[zGO] at hd;obtain⟨x,h1,h2⟩:=Option.map_eq_some_iff.1 hd;exact⟨hne2,hne,x,h1,h2.symm⟩
theorem sD.ren(hab:a≠b){c:KV}(hc:zPs a b c=true)(h:sD X c v):sD (X.ren a b) c v:=by
 cases c<;>simp only[sD] at h ⊢
 case p=>exact h
 case ptr id off =>
  simp only[zPs,Bool.and_eq_true,decide_eq_true_eq] at hc;obtain⟨h1,h2,h3⟩:=h;refine⟨by simpa[Ctx.ren,lT] using h1,h2,λcells hd=>?_⟩
  rcases hZ hab hd rfl with⟨h4,_⟩|⟨_,_,x,h5,h6⟩
  .exact absurd h4 hc.1
  .cases x with
   | box cells'=>simp only[Ctx.ren,if_neg hc.1];exact h3 _ h5
   | dead=>simp[renB] at h6
   | mp es=>simp[renB] at h6
   | arr k es r=>simp[renB] at h6
theorem fQ.ren(hab:a≠b):∀{cs:List KV} {vs:List Value},cs.all (zPs a b)=true->fQ X cs vs->fQ (X.ren a b) cs vs
 | [],[],_,_=>True.intro
 | _::_,_::_,hc,h=>by
  simp only[List.all_cons,Bool.and_eq_true] at hc;exact⟨h.1.ren hab hc.1,fQ.ren hab hc.2 h.2⟩
 | [],_::_,_,h=>h.elim
 | _::_,[],_,h=>h.elim
theorem cA.ren(hab:a≠b)(hb:X.h[b]?=some (.arr kb eb false))(ha:a<X.h.length){c c':CV}(hc:EH a b c=some c')(h:cA X c v):cA (X.ren a b) c' v:=by
 cases c<;>simp only[EH] at hc
 case p=>cases hc;exact h
 case own i off len =>
  split at hc
  .rename_i hi;subst hi;cases hc;simp only[cA] at h ⊢;obtain⟨h1,h2,h3⟩:=h;refine⟨by simpa[Ctx.ren,lT] using ha,h2,λk es ro hd=>?_⟩
   rcases hZ hab hd rfl with⟨_,h5,_⟩|⟨h4,_⟩
   .have:=h3 _ _ _ h5;simp only[Ctx.ren,if_true];exact this
   .exact absurd rfl h4
  .rename_i hi;split at hc
   .cases hc
   .rename_i hia;cases hc;simp only[cA] at h ⊢;obtain⟨h1,h2,h3⟩:=h;refine⟨by simpa[Ctx.ren,lT] using h1,h2,λk es ro hd=>?_⟩
    rcases hZ hab hd rfl with⟨h4,_⟩|⟨_,_,x,h5,h6⟩
    .exact absurd h4 hia
    .cases x with
     | arr k' es' r' =>
      simp only[renB] at h6;cases h6;have:=h3 _ _ _ h5;simp only[Ctx.ren,if_neg hia];exact this
     | dead=>simp[renB] at h6
     | mp es=>simp[renB] at h6
     | box cells=>simp only[renB] at h6;split at h6<;>cases h6
 case ptr i off =>
  split at hc
  .cases hc
  .rename_i hia;split at hc
   .cases hc
   .rename_i hib;cases hc;simp only[cA] at h ⊢;obtain⟨h1,h2,h3⟩:=h;refine⟨by simpa[Ctx.ren,lT] using h1,h2,λcells hd=>?_⟩
    rcases hZ hab hd rfl with⟨h4,_⟩|⟨_,_,x,h5,h6⟩
    .exact absurd h4 hia
    .cases x with
     | box cells'=>simp only[Ctx.ren,if_neg hia];exact h3 _ h5
     | dead=>simp[renB] at h6
     | mp es=>simp[renB] at h6
     | arr k es r=>simp[renB] at h6
 case aptr i x y =>
  split at hc
  .cases hc
  .rename_i hia;split at hc
   .cases hc
   .rename_i hib;cases hc;simp only[cA] at h ⊢;obtain⟨h1,h2,h3⟩:=h;refine⟨by simpa[Ctx.ren,lT] using h1,h2,λk es ro hd=>?_⟩
    rcases hZ hab hd rfl with⟨h4,_⟩|⟨_,_,q,h5,h6⟩
    .exact absurd h4 hia
    .cases q with
     | arr k' es' r' =>
      simp only[renB] at h6;cases h6;simp only[Ctx.ren,if_neg hia];exact h3 _ _ _ h5
     | dead=>simp[renB] at h6
     | mp es=>simp[renB] at h6
     | box cells=>simp only[renB] at h6;split at h6<;>cases h6
 case bs i n =>
  split at hc
  .cases hc
  .rename_i hia;split at hc
   .cases hc
   .rename_i hib;cases hc;simp only[cA] at h ⊢;obtain⟨h1,h2,h3⟩:=h;refine⟨by simpa[Ctx.ren,lT] using h1,h2,λcells hd=>?_⟩
    rcases hZ hab hd rfl with⟨h4,_⟩|⟨_,_,x,h5,h6⟩
    .exact absurd h4 hia
    .cases x with
     | box cells'=>simp only[Ctx.ren,if_neg hia];exact h3 _ h5
     | dead=>simp[renB] at h6
     | mp es=>simp[renB] at h6
     | arr k es r=>simp[renB] at h6
 case mp i =>
  split at hc
  .cases hc
  .rename_i hia;split at hc
   .cases hc
   .rename_i hib;cases hc;simp only[cA] at h ⊢;obtain⟨h1,h2,h3⟩:=h;refine⟨by simpa[Ctx.ren,lT] using h1,h2,λes hd=>?_⟩
    rcases hZ hab hd rfl with⟨h4,_⟩|⟨_,_,q,h5,h6⟩
    .exact absurd h4 hia
    .cases q with
     | mp es' =>
      simp only[renB] at h6;cases h6;simp only[Ctx.ren,if_neg hia];exact h3 _ h5
     | dead=>simp[renB] at h6
     | arr k es r=>simp[renB] at h6
     | box cells=>simp only[renB] at h6;split at h6<;>cases h6
 case eptr cs=>cases hc;exact h
 case full k es=>cases hc;exact h
 case clo f cap =>
  split at hc
  .rename_i hk;cases hc;obtain⟨vs,h1,h2⟩:=h;exact⟨vs,h1,h2.ren hab hk⟩
  .cases hc
theorem bF.ren(hab:a≠b)(hb:X.h[b]?=some (.arr kb eb false))(ha:a<X.h.length):∀{cs cs':List CV} {vs:List Value},wQ a b cs=some cs'->bF X cs vs->bF (X.ren a b) cs' vs
 | [],_,[],hc,_=>by simp only[wQ] at hc;cases hc;exact True.intro
 | c::cs,cs',v::vs,hc,h=>by
  simp only[wQ] at hc;split at hc
  .rename_i x xs h1 h2;cases hc;exact⟨h.1.ren hab hb ha h1,bF.ren hab hb ha h2 h.2⟩
  .cases hc
 | [],_,_::_,_,h=>h.elim
 | _::_,_,[],_,h=>h.elim
theorem bD.ren(hab:a≠b)(hb:X.h[b]?=some (.arr kb eb false))(ha:a<X.h.length){d:DV}(h:bD X d v):bD (X.ren a b) (CY a b d) v:=by
 cases d with
 | jk=>exact True.intro
 | c x =>
  simp only[CY];split
  .rename_i y hy;exact cA.ren hab hb ha hy h
  .exact True.intro
 | agg xs =>
  simp only[CY];split
  .rename_i ys hy;obtain⟨vs,h1,h2⟩:=h;exact⟨vs,h1,h2.ren hab hb ha hy⟩
  .exact True.intro
 | tup es =>
  cases es with
  | nil =>
   obtain⟨vs,h1,h2⟩:=h;cases vs with
   | nil=>exact⟨[],h1,True.intro⟩
   | cons _ _=>exact h2.elim
  | cons _ _=>exact True.intro
theorem cU.ren(hab:a≠b)(hb:X.h[b]?=some (.arr kb eb false))(ha:a<X.h.length){bl:Nat}:∀{cs cs':List CV} {off:Nat},wQ a b cs=some cs'->cU X bl off cs->cU (X.ren a b) bl off cs'
 | [],_,_,hc,_=>by simp only[wQ] at hc;cases hc;exact True.intro
 | c::cs,cs',off,hc,h=>by
  simp only[wQ] at hc;split at hc
  .rename_i x xs h1 h2;cases hc;obtain⟨⟨v,h3,h4⟩,h5⟩:=h;exact⟨⟨v,h3,h4.ren hab hb ha h1⟩,cU.ren hab hb ha h2 h5⟩
  .cases hc
theorem SR: ∀{cs cs':List CV},wQ a b cs=some cs'->cs'.length=cs.length
 | [],_,h=>by simp only[wQ] at h;cases h;rfl
 | c::cs,cs',h=>by
  simp only[wQ] at h;split at h
  .rename_i x xs h1 h2;cases h;simp[SR h2]
  .cases h
theorem HInv.ren(hi:HInv X)(hab:a≠b)(hb:X.h[b]?=some (.arr kb eb false))(ha:a<X.h.length):HInv (X.ren a b) where
 slt:=hi.slt
 blk:=λi db h=>by
  by_cases hl:db.live=true
  .rcases hZ hab h hl with⟨rfl,h1,_⟩|⟨h1,h2,x,h3,rfl⟩
   .have:=hi.blk b db h1;rw[hb] at h1;cases h1;simp only[eC,Ctx.ren,if_true] at this ⊢;exact this
   .have:=hi.blk i x h3;cases x with
    | dead=>simp[renB,DB.live] at hl
    | arr k es r =>
     simp only[renB,eC,Ctx.ren,if_neg h1] at this ⊢;exact this
    | mp es =>
     simp only[renB,eC,Ctx.ren,if_neg h1] at this ⊢;exact this
    | box cells =>
     simp only[renB] at hl ⊢;split
     .rename_i c hc;simp only[eC] at this ⊢;obtain⟨g,arr,el,fz,g1,g2,g3,g4,g5⟩:=this;exact⟨g,arr,el,fz,by simp only[Ctx.ren,if_neg h1];exact g1,g2,by rw[SR hc];exact g3,g4,g5.ren hab hb ha hc⟩
     .trivial
  .cases db<;>simp_all[DB.live,eC]
 own:=λi db g h hl hg=>by
  rcases hZ hab h hl with⟨rfl,h1,_⟩|⟨h1,h2,x,h3,rfl⟩
  .simp only[Ctx.ren,if_true] at hg;exact hi.own b db g h1 hl hg
  .simp only[Ctx.ren,if_neg h1] at hg;have hx:=kR hl;rw[hx.2];exact hi.own i x g h3 hx.1 hg
 inj:=λi d i' d' g g' h hl hf h' hl' hg hg' he=>by
  rcases hZ hab h hl with⟨rfl,h1,_⟩|⟨h1,h2,x,h3,rfl⟩<;>rcases hZ hab h' hl' with⟨rfl,h1',_⟩|⟨h1',h2',x',h3',rfl⟩
  .rfl
  .simp only[Ctx.ren,if_true] at hg;simp only[Ctx.ren,if_neg h1'] at hg';have hx':=kR hl';exact absurd (hi.inj b d i' x' g g' h1 hl hf h3' hx'.1 hg hg' he).symm h2'
  .simp only[Ctx.ren,if_neg h1] at hg;simp only[Ctx.ren,if_true] at hg';have hx:=kR hl;rw[hx.2] at hf;exact absurd (hi.inj i x b d' g g' h3 hx.1 hf h1' hl' hg hg' he) h2
  .simp only[Ctx.ren,if_neg h1] at hg;simp only[Ctx.ren,if_neg h1'] at hg';have hx:=kR hl;have hx':=kR hl';rw[hx.2] at hf;exact hi.inj i x i' x' g g' h3 hx.1 hf h3' hx'.1 hg hg' he
theorem cM.renB{d x:DB}(h:cM d x)(hl:(renB a b x).live=true):cM d (renB a b x):=by
 cases x with
 | dead=>simp[Dm.renB,DB.live] at hl
 | arr k es r=>exact h
 | mp es=>exact h
 | box cells =>
  cases d<;>simp only[cM] at h;simp only[Dm.renB] at hl ⊢;split
  .exact True.intro
  .rename_i hn;simp[hn,DB.live] at hl
theorem Step.ren{X0:Ctx}(hs:Step X0 X)(hab:a≠b)(h0:X0.h.length<=a)(h1:X0.h.length<=b):Step X0 (X.ren a b) where
 size:=hs.size
 os:=hs.os
 tape:=hs.tape
 output:=hs.output
 kept:=hs.kept
 len:=by simp only[Ctx.ren,lT];exact hs.len
 ids:=λi db' hlt h hl=>by
  rcases hZ hab h hl with⟨rfl,_⟩|⟨g1,g2,x,g3,rfl⟩
  .omega
  .obtain⟨db,k1,k2,k3,k4⟩:=hs.ids i x hlt g3 (kR hl).1;exact⟨db,k1,k2.renB hl,by simp only[Ctx.ren,if_neg g1];exact k3,k4⟩
 frame:=hs.frame
 mine:=λi db g h hl hf hg=>by
  rcases hZ hab h hl with⟨rfl,g1,_⟩|⟨g1,g2,x,g3,rfl⟩
  .simp only[Ctx.ren,if_true] at hg;exact hs.mine b db g g1 hl hf hg
  .simp only[Ctx.ren,if_neg g1] at hg;have hx:=kR hl;rw[hx.2] at hf;exact hs.mine i x g g3 hx.1 hf hg
 upper:=hs.upper
end
def DS.ren(s:DS)(a b:Nat):DS:=⟨s.n,EI a b s.t,zNi a b s.h⟩
def yB(n0:Nat)(s s':DS):Prop:=FE n0 s s'∨∃a b kb eb,a≠b/\n0<=a/\n0<=b/\a<s.h.length/\s.h[b]?=some (.arr kb eb false)/\FE n0 (s.ren a b) s'
theorem yB.use{n0:Nat}{s s':DS}(h:yB n0 s s'){X0 X:Ctx}{a:Act}(hn:X0.h.length=n0)(hh:X.h=s.h)(hi:HInv X)(hs:Step X0 X)(ht:TInv X s a):∃X',X'.w=X.w/\X'.h=s'.h/\HInv X'/\Step X0 X'/\TInv X' s' a:=by
 rcases h with h|⟨p,q,kb,eb,hab,h0,h1,hp,hq,h⟩
 .exact h.use hn hh hi hs ht
 .rw[<- hh] at hp hq;refine h.use (X:=X.ren p q) hn ?_ (hi.ren hab hq hp) (hs.ren hab (by omega) (by omega)) ⟨ht.size,λi=>?_,ht.defs⟩
  .simp only[Ctx.ren,DS.ren,hh]
  .simp only[DS.ren];rw[zM];exact(ht.rel i).ren hab hq hp
section
variable {P:Program}{T:Tab}{X0:Ctx}{c:Code}{Q:Exit->DS->Prop}
variable {s:DS}{n0:Nat}
def xT{α:Type}(n0:Nat)(I:α->DS)(J:α->Prop)(μ:α->Nat)(x:α)(Q:Exit->DS->Prop):Exit->DS->Prop:=λe s'=>match e with
 | .normal=>∃y,J y/\μ y < μ x/\yB n0 s' (I y)
 | e=>Q e s'
theorem aP(hT:bM P T)(hm:P.follows .mixedOrders=true){α:Type}(I:α->DS)(J:α->Prop)(μ:α->Nat)(x0:α)(hJ:J x0)(hw:yB X0.h.length s (I x0))
 (h:∀x,J x->vc P T X0 c (I x) (xT X0.h.length I J μ x Q)):SWP P X0 (.loop c) s Q:=by
 intro gd X a hh hi hs ht;obtain⟨X',h1,h2,h3,h4,h5⟩:=hw.use rfl hh hi hs ht;rw[<- h1];refine wp_loop_ghost (λn a w=>∃x X,μ x=n/\J x/\X.w=w/\X.h=(I x).h/\HInv X/\Step X0 X/\TInv X (I x) a) (μ x0) ⟨x0,X',rfl,hJ,rfl,h2,h3,h4,h5⟩ ?_;rintro n a' w' ⟨x,Y,rfl,k1,rfl,k2,k3,k4,k5⟩;refine wp_mono (dP hT hm c (h x k1) gd Y a' k2 k3 k4 k5) λe a w hp=>?_;obtain⟨s',Z,p1,rfl,p3,p4,p5,p6⟩:=hp;cases e<;>simp only[Exit.then,xT] at p1 ⊢
 case normal =>
  obtain⟨y,q1,q2,q3⟩:=p1;obtain⟨Z',r1,r2,r3,r4,r5⟩:=q3.use rfl p3 p4 p5 p6;exact⟨μ y,q2,y,Z',rfl,q1,r1,r2,r3,r4,r5⟩
 all_goals exact⟨s',Z,p1,rfl,p3,p4,p5,p6⟩
theorem qr_e{α:Type}{I:α->DS}{J:α->Prop}{μ:α->Nat}{x:α}{id:Nat}:xT n0 I J μ x Q (.exit id) s=Q (.exit id) s:=nr rfl
theorem qr_r{α:Type}{I:α->DS}{J:α->Prop}{μ:α->Nat}{x:α}:xT n0 I J μ x Q .ret s=Q .ret s:=nr rfl
theorem dE{α:Type}{I:α->DS}{J:α->Prop}{μ:α->Nat}{x:α}(y:α)(h1:J y)(h2:μ y < μ x)(h3:FE n0 s (I y)):xT n0 I J μ x Q .normal s:=⟨y,h1,h2,.inl h3⟩
theorem dN{α:Type}{I:α->DS}{J:α->Prop}{μ:α->Nat}{x:α}(y:α)(a b:Nat){kb:Nat}{eb:List (List PV)}(h1:J y)(h2:μ y < μ x)(hc:(!(Nat.beq a b) && Nat.ble n0 a && Nat.ble n0 b && Nat.blt a s.h.length)=true)
 (hb:s.h[b]?=some (.arr kb eb false))(h3:FE n0 (s.ren a b) (I y)):xT n0 I J μ x Q .normal s:=by
 simp only[Bool.and_eq_true,Bool.not_eq_true'] at hc;refine⟨y,h1,h2,.inr ⟨a,b,kb,eb,λe=>?_,Nat.le_of_ble_eq_true hc.1.1.2,Nat.le_of_ble_eq_true hc.1.2,Nat.blt_eq.mp hc.2,hb,h3⟩⟩;have:=hc.1.1.1;subst e;rw[Nat.beq_refl] at this;cases this
end
theorem zC0(n:Nat):((n:Int)+1).toNat=n+1:=by omega
attribute [go_sem] zC0
attribute [go_sem] qr_e qr_r DS.ren EI CY EH wQ renB zLy zNi zPs
theorem sp{A B:Prop}(hb:B)(h:A=B:=by (simp (maxSteps:=1000000) only[*,go_sem,Nat.reduceLT,Nat.reduceLeDiff,Nat.reduceEqDiff,↓reduceIte,Nat.reduceAdd,Nat.reduceSub,Nat.reduceMul,Int.reduceLT,Int.reduceLE,Int.reduceAdd,Int.reduceSub,Int.reduceMul,Int.reduceNeg,Int.reduceToNat,Int.reduceEq,Int.reduceBEq,Int.reduceBNe,Nat.reduceBEq,beq_self_eq_true,bne_self_eq_false'];rfl)):A:=h.mpr hb
theorem sq{A B:Prop}(hb:B)(h:A=B:=by (simp (maxSteps:=1000000) only[*,go_sem,Nat.reduceLT,Nat.reduceLeDiff,Nat.reduceEqDiff,↓reduceIte,Nat.reduceAdd,Nat.reduceSub,Nat.reduceMul,Int.reduceLT,Int.reduceLE,Int.reduceAdd,Int.reduceSub,Int.reduceMul,Int.reduceNeg,Int.reduceToNat,Int.reduceEq,Int.reduceBEq,Int.reduceBNe,Nat.reduceBEq,beq_self_eq_true,bne_self_eq_false',Bool.not_true,Bool.not_false];rfl)):A:=h.mpr hb
theorem uF{P:Program}{f:FuncId}{args:List DV}{h:aD}{r:DV}{K:DV->aD->Prop}(hc:aA P f args [] λd h'=>d=r/\h'=[])(hk:K r h)(hp:iF h args=some args:=by exact rfl)(hfl:QH r=true:=by exact rfl):aA P f args h K:=mH hc hp hfl hk
theorem uN{P:Program}{f:FuncId}{args:List DV}{h:aD}{r:DV}{K:DV->aD->Prop}(hc:aA P f args [] λd h'=>d=r/\h'=[])(hk:K r (sN h (lZ args)))(hp:iF h args=some args:=by exact rfl)(hsh:∀n,r.sh n=r:=by exactλ_=>rfl):aA P f args h K:=xE hc hp hsh hk
theorem ai{A B:Prop}(hb:B)(ha:A:=by first|omega|decide|assumption|(simp only[decide_eq_true_eq,decide_eq_false_iff_not] at *;omega)):A/\B:=⟨ha,hb⟩
theorem wkK{n:Nat}{t t':Fr}(H:WkT n t t':=by (simp only[aQ,aX];(repeat' (first|exact rfl|exact True.intro|refine And.intro ?_ ?_))<;>fail)):WkT n t t':=H
theorem wkS{n:Nat}{t t':Fr}(H:WkT n t t':=by simp[aQ,aX,aI,aL,aJ,iI,bP,EI,CY,EH,gI,nT,zD]):WkT n t t':=H
end Go.Dm
end
end
