/- Part 4 of the proof of roomDeep_card, set without needless blanks. No condition. -/
import Derived.Test.YtlbfnbldeefgmaaGreatDoorC02
import Derived.LoopN
set_option linter.all false
section
section
namespace Go.Dm
open Go
def vc (P:Program) (T:Tab) (X0:Ctx):Code→DS→(Exit→DS→Prop)→Prop
 | .skip,s,Q=>Q .normal s
 | .ret,s,Q=>Q .ret s
 | .exit id,s,Q=>Q (.exit id) s
 | .seq x y,s,Q=>vc P T X0 x s fun e s'=>match e with
  | .normal=>vc P T X0 y s' Q
  | e=>Q e s'
 | .block id c,s,Q=>vc P T X0 c s (mL id Q)
 | .cond c x y,s,Q=>match evD s.t c with
  | .c (.p (.b t))=>(t=true→vc P T X0 x s Q)∧(t=false→vc P T X0 y s Q)
  | _=>False
 | .region _ ops false,s,Q=>jK P T ops ops.toList s (Q .normal)
 | c,s,Q=>SWP P X0 c s Q
theorem dK {P:Program} {T:Tab} {X0:Ctx} (hT:bG P T) (hm:P.follows .mixedOrders=true):∀ (c:Code) {s:DS} {Q:Exit→DS→Prop},vc P T X0 c s Q→SWP P X0 c s Q
 | .skip,s,Q,h=>zEV h
 | .ret,s,Q,h=>zHv h
 | .exit id,s,Q,h=>zET h
 | .seq x y,s,Q,h=>xB (fB (dK hT hm x h) fun e s' hq=>by
   cases e <;> simp only at hq ⊢
   case normal=>exact dK hT hm y hq
   all_goals exact hq)
 | .block id c,s,Q,h=>JK (fB (dK hT hm c h) fun e s' hq=>by
   cases e <;> simp only [mL] at hq ⊢ <;> exact hq)
 | .cond c x y,s,Q,h=>by
   simp only [vc] at h;split at h
   ·rename_i t ht;exact zES ht (fun e=>dK hT hm x (h.1 e)) (fun e=>dK hT hm y (h.2 e))
   ·exact h.elim
 | .region id ops false,s,Q,h=>VK hT h
 | .region id ops true,s,Q,h=>h
 | .loop c,s,Q,h=>h
 | .rangeFunc _ _ _ _,s,Q,h=>h
 | .scope _,s,Q,h=>h
 | .label _,s,Q,h=>h
 | .goto _,s,Q,h=>h
 | .refuse _,s,Q,h=>h
def zFk (n:Nat) (h:aB) (d:DV) (R:DV→aB→Prop):Prop :=
 match zBM h d with
 | some d'=>((sC h (zHc d)).take n).all (bK n)=true∧R d' ((sC h (zHc d)).take n)
 | none=>False
theorem zFk.fin {n:Nat} {h:aB} {d:DV} {R:DV→aB→Prop} (hf:zFk n h d R):Fin n h d R:=by
 unfold zFk at hf;split at hf
 ·rename_i d' hd;exact .inr (.inl ⟨d',hd,hf.1,hf.2⟩)
 ·exact hf.elim
def VV (T:Tab) (n:Nat) (t:Fr) (h:aB) (R:DV→aB→Prop):List ResultVar→List EV→Prop
 | [],es=>zFk n h (BE es.reverse) R
 | .tmp i::rs,es =>
  match look t i with
  | .c x=>VV T n t h R rs (.c x::es)
  | .agg xs=>VV T n t h R rs (.agg xs::es)
  | _=>False
 | .cell a ty::rs,es=>(T ty).size≠0∧qY (T ty) h (look t a) fun d =>
  match d with
  | .c x=>VV T n t h R rs (.c x::es)
  | .agg xs=>VV T n t h R rs (.agg xs::es)
  | _=>False
def VU (T:Tab) (n:Nat) (rs:List ResultVar) (R:DV→aB→Prop):Exit→DS→Prop
 | .normal,s=>VV T n s.t s.h R rs []
 | .ret,s=>VV T n s.t s.h R rs []
 | _,_=>False
theorem yH {T:TI} {h:aB} {a:DV} {K K':DV→Prop} (hk:∀ d,K d→K' d) (hd:qY T h a K):qY T h a K':=by
 unfold qY at hd ⊢;revert hd;split
 ·split
  ·split
   ·exact fun h=>⟨h.1,hk _ h.2⟩
   ·split
    ·exact fun h=>hk _ h
    ·exact fun h=>h
  ·exact fun h=>h
 ·split
  ·split
   ·exact fun h=>⟨h.1,h.2.1,hk _ h.2.2⟩
   ·exact fun h=>⟨h.1,h.2.1,hk _ h.2.2⟩
  ·exact fun h=>h
 ·split
  ·exact fun h=>⟨h.1,hk _ h.2⟩
  ·split
   ·exact fun h=>hk _ h
   ·exact fun h=>h
 ·exact fun h=>h
theorem kF {T:Tab} {n:Nat} {s:DS} {R:DV→aB→Prop}:∀ (rs:List ResultVar) (es:List EV) {K:List EV→Prop},(∀ l,zFk n s.h (BE (es.reverse++l)) R→K l)→VV T n s.t s.h R rs es→kI T s rs K
 | [],es,K,hk,h=>hk [] (by simpa [VV] using h)
 | .tmp i::rs,es,K,hk,h=>by
  simp only [VV,kI] at h ⊢;generalize look s.t i=d at h ⊢;cases d <;> simp only at h ⊢
  ·exact kF rs _ (fun l hl=>hk _ (by simpa using hl)) h
  ·exact kF rs _ (fun l hl=>hk _ (by simpa using hl)) h
 | .cell a ty::rs,es,K,hk,h=>by
  simp only [VV,kI] at h ⊢;refine ⟨h.1,yH (fun d hd=>?_) h.2⟩;cases d <;> simp only at hd ⊢
  ·exact kF rs _ (fun l hl=>hk _ (by simpa using hl)) hd
  ·exact kF rs _ (fun l hl=>hk _ (by simpa using hl)) hd
theorem xH {T:Tab} {n:Nat} {rs:List ResultVar} {R:DV→aB→Prop} {e:Exit} {s:DS} (h:VU T n rs R e s):dpost T n rs R e s:=by
 cases e <;> simp only [VU,dpost] at h ⊢
 case normal=>exact kF rs [] (fun l hl=>zFk.fin (by simpa using hl)) h
 case ret=>exact kF rs [] (fun l hl=>zFk.fin (by simpa using hl)) h
def jG:Nat→List DV→Fr
 | _,[]=>[]
 | i,d::l=>(i,d)::jG (i+1) l
theorem fC:∀ (l:List DV) (i:Nat),(l.zipIdx i).map (fun p=>(p.2,p.1))=jG i l
 | [],_=>rfl
 | d::l,i=>by simp only [List.zipIdx_cons,List.map_cons,jG,fC l]
theorem ent {P:Program} {T:Tab} (hT:bG P T) (hm:P.follows .mixedOrders=true) {f:FuncId} {fn:Func} {c:Code} {args:List DV} {h:aB} {R:DV→aB→Prop} (hf:P.funcs[f]? = some fn) (hb:fn.body=some c)
  (hc:(Nat.ble args.length fn.ntmps && !(fn.name == "runtime.NumGoroutine"))=true)
  (hs:∀ X0:Ctx,X0.h=h→vc P T X0 c ⟨fn.ntmps,jG 0 args,h⟩ (VU T h.length fn.results.toList R)):aA P f args h R:=by
 simp only [Bool.and_eq_true,Bool.not_eq_true'] at hc;refine eL hT hf hb (Nat.le_of_ble_eq_true hc.1) hc.2 fun X0 hX=>?_;rw [fC];exact fB (dK hT hm c (hs X0 hX)) fun e s=>xH
end Go.Dm
end
section
namespace Go.Dm
open Go
section
variable {P:Program} {T:Tab} {X0:Ctx}
inductive Later (p:Prop):Prop where
 | mk (h:p):Later p
theorem pO (p:Prop):Later p=p:=propext ⟨fun ⟨h⟩=>h,.mk⟩
theorem nr {α:Sort _} {a b:α} (h:a=b):a=b:=h
def vsq (P:Program) (T:Tab) (X0:Ctx) (y:Code) (Q:Exit→DS→Prop):Exit→DS→Prop:=fun e s'=>match e with
 | .normal=>Later (vc P T X0 y s' Q)
 | e=>Q e s'
def VT (P:Program) (T:Tab) (X0:Ctx) (d:DV) (x y:Code) (s:DS) (Q:Exit→DS→Prop):Prop :=
 match d with
 | .c (.p (.b t))=>(t=true→vc P T X0 x s Q)∧(t=false→vc P T X0 y s Q)
 | _=>False
def zIC (P:Program) (T:Tab) (ops:Array Oper) (rest:List Oper) (n:Nat) (t:Fr) (dst:Option Tmp) (K:DS→Prop):DV→aB→Prop:=fun d h'=>Later (jK P T ops rest (DS.put ⟨n,t,h'⟩ dst d h') K)
theorem CC {P:Program} {T:Tab} {ops:Array Oper} {rest:List Oper} {n:Nat} {t:Fr} {dst:Option Tmp} {K:DS→Prop}:zIC P T ops rest n t dst K=fun d h'=>jK P T ops rest (DS.put ⟨n,t,h'⟩ dst d h') K:=by
 funext d h';exact pO _
def kP (K:DV→aB→Prop) (h:aB):PV→Prop:=fun x=>K (.c (.p x)) h
def kD (K:DV→aB→Prop) (h:aB):DV→Prop:=fun d=>K d h
def kB (K:PV→Prop):Bool→Prop:=fun b=>K (.b b)
def kN (K:PV→Prop):Bool→Prop:=fun b=>K (.b (!b))
def kU (K:DV→aB→Prop):aB→Prop:=fun h=>K (.tup []) h
def SG (t:Fr):List Oper→Nat→Option DV
 | [],_=>none
 | o::_,0=>o.dst.map fun i=>look t i
 | _::l,j+1=>SG t l j
def kE (P:Program) (T:Tab) (ops:Array Oper) (g:Option DV) (b:Bool) (op:Op) (t:Fr) (h:aB) (K:DV→aB→Prop):Prop :=
 match g with
 | some (.c (.p (.b v)))=>(v=b→dop P T op t h K)∧(v≠b→K (.tup []) h)
 | some (.tup [])=>K (.tup []) h
 | _=>False
def NF (d:DV) (a b:DV) (h:aB) (K:DV→aB→Prop):Prop :=
 match d with
 | .c (.p (.b v))=>(v=true→K a h)∧(v=false→K b h)
 | _=>False
theorem zHH {s:DS} {Q:Exit→DS→Prop}:vc P T X0 .skip s Q=Q .normal s:=nr rfl
theorem zJg {s:DS} {Q:Exit→DS→Prop}:vc P T X0 .ret s Q=Q .ret s:=nr rfl
theorem zHF {id:Nat} {s:DS} {Q:Exit→DS→Prop}:vc P T X0 (.exit id) s Q=Q (.exit id) s:=nr rfl
theorem zJh {x y:Code} {s:DS} {Q:Exit→DS→Prop}:vc P T X0 (.seq x y) s Q=vc P T X0 x s (vsq P T X0 y Q):=by
 have e:vsq P T X0 y Q=fun e s'=>match e with
   | .normal=>vc P T X0 y s' Q
   | e=>Q e s':=by
  funext e s'
  cases e <;> first|rfl|exact pO _
 rw [e];rfl
theorem zE1 {id:Nat} {c:Code} {s:DS} {Q:Exit→DS→Prop}:vc P T X0 (.block id c) s Q=vc P T X0 c s (mL id Q):=nr rfl
theorem zHE {c:Operand} {x y:Code} {s:DS} {Q:Exit→DS→Prop}:vc P T X0 (.cond c x y) s Q=VT P T X0 (evD s.t c) x y s Q:=nr rfl
theorem zCg {id:Nat} {l:List Oper} {s:DS} {Q:Exit→DS→Prop}:vc P T X0 (.region id l.toArray false) s Q=jK P T l.toArray l s (Q .normal):=nr rfl
theorem zHG {c:Code} {s:DS} {Q:Exit→DS→Prop}:vc P T X0 (.loop c) s Q=SWP P X0 (.loop c) s Q:=nr rfl
theorem zKv {y:Code} {s:DS} {Q:Exit→DS→Prop}:vsq P T X0 y Q .normal s=vc P T X0 y s Q:=pO _
theorem zKw {y:Code} {s:DS} {Q:Exit→DS→Prop}:vsq P T X0 y Q .ret s=Q .ret s:=nr rfl
theorem zKu {y:Code} {id:Nat} {s:DS} {Q:Exit→DS→Prop}:vsq P T X0 y Q (.exit id) s=Q (.exit id) s:=nr rfl
theorem qb_n {id:Nat} {s:DS} {Q:Exit→DS→Prop}:mL id Q .normal s=Q .normal s:=nr rfl
theorem qb_r {id:Nat} {s:DS} {Q:Exit→DS→Prop}:mL id Q .ret s=Q .ret s:=nr rfl
theorem qb_e {id id':Nat} {s:DS} {Q:Exit→DS→Prop}:mL id Q (.exit id') s=if id'=id then Q .normal s else Q (.exit id') s:=nr rfl
theorem ql_e {α:Type} {n0:Nat} {I:α→DS} {J:α→Prop} {μ:α→Nat} {x:α} {id:Nat} {s:DS} {Q:Exit→DS→Prop}:zIV n0 I J μ x Q (.exit id) s=Q (.exit id) s:=nr rfl
theorem ql_r {α:Type} {n0:Nat} {I:α→DS} {J:α→Prop} {μ:α→Nat} {x:α} {s:DS} {Q:Exit→DS→Prop}:zIV n0 I J μ x Q .ret s=Q .ret s:=nr rfl
theorem zHL {n:Nat} {rs:List ResultVar} {R:DV→aB→Prop} {s:DS}:VU T n rs R .normal s=VV T n s.t s.h R rs []:=nr rfl
theorem zHM {n:Nat} {rs:List ResultVar} {R:DV→aB→Prop} {s:DS}:VU T n rs R .ret s=VV T n s.t s.h R rs []:=nr rfl
theorem zHJ {x y:Code} {s:DS} {Q:Exit→DS→Prop}:VT P T X0 (.c (.p (.b true))) x y s Q=vc P T X0 x s Q:=by simp [VT]
theorem zHI {x y:Code} {s:DS} {Q:Exit→DS→Prop}:VT P T X0 (.c (.p (.b false))) x y s Q=vc P T X0 y s Q:=by simp [VT]
theorem aR {t:Bool} {x y:Code} {s:DS} {Q:Exit→DS→Prop} (h1:t=true→vc P T X0 x s Q) (h2:t=false→vc P T X0 y s Q):VT P T X0 (.c (.p (.b t))) x y s Q:=⟨h1,h2⟩
theorem zJl {ops:Array Oper} {s:DS} {K:DS→Prop}:jK P T ops [] s K=K s:=nr rfl
theorem zJm {ops:Array Oper} {dst:Option Tmp} {op:Op} {ty:TypeId} {pos:String} {after:Array Edge} {rest:List Oper} {n:Nat} {t:Fr} {h:aB} {K:DS→Prop}:
  jK P T ops ({ dst:=dst,op:=op,type:=ty,pos:=pos,after:=after,guard:=none }::rest) ⟨n,t,h⟩ K=dop P T op t h (zIC P T ops rest n t dst K):=by rw [CC];rfl
theorem zE3 {l:List Oper} {dst:Option Tmp} {op:Op} {ty:TypeId} {pos:String} {after:Array Edge} {rest:List Oper} {j:Nat} {b:Bool} {n:Nat} {t:Fr} {h:aB} {K:DS→Prop}:
  jK P T l.toArray ({ dst:=dst,op:=op,type:=ty,pos:=pos,after:=after,guard:=some (j,b) }::rest) ⟨n,t,h⟩ K=kE P T l.toArray (SG t l j) b op t h (zIC P T l.toArray rest n t dst K):=by
 have e:∀ (l:List Oper) (j:Nat),((l[j]?).bind (·.dst)).map (fun i=>look t i)=SG t l j:=by
  intro l
  induction l with
  | nil=>intro j;rfl
  | cons o l ih=>intro j;cases j with
   | zero=>rfl
   | succ j=>exact ih j
 rw [CC];simp only [jK,List.getElem?_toArray,e];rfl
theorem zGI {t:Fr} {o:Oper} {l:List Oper}:SG t (o::l) 0=o.dst.map fun i=>look t i:=nr rfl
theorem zGH {t:Fr} {o:Oper} {l:List Oper} {j:Nat}:SG t (o::l) (j+1)=SG t l j:=nr rfl
theorem zAO {ops:Array Oper} {rest:List Oper} {n:Nat} {t:Fr} {i:Nat} {K:DS→Prop} {d:DV} {h:aB} (hi:i<n):zIC P T ops rest n t (some i) K d h=jK P T ops rest ⟨n,(i,d)::t,h⟩ K:=by
 rw [CC];simp only [DS.put];rw [if_pos hi]
theorem zAN {ops:Array Oper} {rest:List Oper} {n:Nat} {t:Fr} {K:DS→Prop} {d:DV} {h:aB}:zIC P T ops rest n t none K d h=jK P T ops rest ⟨n,t,h⟩ K:=by rw [CC];rfl
theorem zJX {K:DV→aB→Prop} {h:aB} {x:PV}:kP K h x=K (.c (.p x)) h:=nr rfl
theorem zJV {K:DV→aB→Prop} {h:aB} {d:DV}:kD K h d=K d h:=nr rfl
theorem zJU {K:PV→Prop} {b:Bool}:kB K b=K (.b b):=nr rfl
theorem zJW {K:PV→Prop} {b:Bool}:kN K b=K (.b (!b)):=nr rfl
theorem zJY {K:DV→aB→Prop} {h:aB}:kU K h=K (.tup []) h:=nr rfl
section g
variable {ops:Array Oper} {op:Op} {t:Fr} {h:aB} {K:DV→aB→Prop}
theorem zKs:kE P T ops (some (.c (.p (.b true)))) true op t h K=dop P T op t h K:=by simp [kE]
theorem zKp:kE P T ops (some (.c (.p (.b false)))) false op t h K=dop P T op t h K:=by simp [kE]
theorem zKr:kE P T ops (some (.c (.p (.b true)))) false op t h K=K (.tup []) h:=by simp [kE]
theorem zKq:kE P T ops (some (.c (.p (.b false)))) true op t h K=K (.tup []) h:=by simp [kE]
theorem zJj {b:Bool}:kE P T ops (some (.tup [])) b op t h K=K (.tup []) h:=nr rfl
theorem cL {v b:Bool} (h1:v=true→kE P T ops (some (.c (.p (.b v)))) b op t h K) (h2:v=false→kE P T ops (some (.c (.p (.b v)))) b op t h K):kE P T ops (some (.c (.p (.b v)))) b op t h K:=by
 cases v
 ·exact h2 rfl
 ·exact h1 rfl
theorem vp_t {a b:DV}:NF (.c (.p (.b true))) a b h K=K a h:=by simp [NF]
theorem vp_f {a b:DV}:NF (.c (.p (.b false))) a b h K=K b h:=by simp [NF]
theorem vp_b {v x y:Bool}:NF (.c (.p (.b v))) (.c (.p (.b x))) (.c (.p (.b y))) h K=K (.c (.p (.b (bif v then x else y)))) h:=by cases v <;> simp [NF]
theorem zGk {x:Operand}:dop P T (.move x) t h K=K (evD t x) h:=nr rfl
theorem YE {x:Operand}:dop P T (.assign x) t h K=K (evD t x) h:=nr rfl
theorem zGm {c a b:Operand}:dop P T (.pick c a b) t h K=NF (evD t c) (evD t a) (evD t b) h K:=nr rfl
def zCh (k:TK) (z:List PV) (h:aB) (K:DV→aB→Prop):Prop :=
 match k with
 | .no=>False
 | _=>K (.c (.ptr h.length 0)) (h++[.box (z.map .p)])
theorem zCW {ty:TypeId}:dop P T (.alloc ty) t h K=zCh (T ty).k (T ty).zero h K:=nr rfl
def zKG (o:Option (List CV)) (h:aB) (K:DV→aB→Prop):Prop :=
 match o with
 | some ys=>K (.c (.ptr h.length 0)) (h++[.box ys])
 | none=>False
theorem zIf {ty:TypeId} {x:Operand}:dop P T (.box ty x) t h K=zKG (cellsD (evD t x)) h K:=nr rfl
def zHV (t:Fr):List (Nat × Operand)→List (Nat × DV)
 | []=>[]
 | p::l=>(p.1,evD t p.2)::zHV t l
theorem KX (t:Fr):∀ l:List (Nat × Operand),(l.map fun p=>(p.1,evD t p.2))=zHV t l
 | []=>rfl
 | p::l=>by simp only [List.map_cons,zHV,KX t l]
def evL (t:Fr):List Operand→List DV
 | []=>[]
 | x::l=>evD t x::evL t l
theorem FR (t:Fr):∀ l:List Operand,l.map (evD t)=evL t l
 | []=>rfl
 | x::l=>by simp only [List.map_cons,evL,FR t l]
def zCf (T:Tab) (k:TK) (z:List PV) (parts:List (Nat × DV)) (h:aB) (K:DV→aB→Prop):Prop :=
 match k with
 | .struct fs=>(∀ f∈fs,(T f.1).size≠0) ∧
  match sW T (fun i=>(fs[i]?).map fun f=>(f.2,(T f.1).size)) (z.map .p) parts with
  | some cells=>K (.agg cells) h
  | none=>False
 | .array _ e=>(T e).size≠0 ∧
  match sW T (fun i=>some (i*(T e).size,(T e).size)) (z.map .p) parts with
  | some cells=>K (.agg cells) h
  | none=>False
 | _=>False
theorem zCX {ty:TypeId} {l:List (Nat × Operand)}:dop P T (.build ty l.toArray) t h K=zCf T (T ty).k (T ty).zero (zHV t l) h K:=by
 rw [← KX];rfl
def JO (T:Tab) (place:List (Nat × Nat)):List CV→List (Nat × DV)→Option (List CV)
 | cells,[]=>some cells
 | cells,(i,d)::rest =>
  match place[i]?,cellsD d with
  | some (ft,off),some ys=>if ys.length=(T ft).size∧off+(T ft).size≤cells.length then JO T place (splice cells off ys) rest else none
  | _,_=>none
theorem JP (T:Tab) (fs:List (Nat × Nat)):∀ (parts:List (Nat × DV)) (cells:List CV),sW T (fun i=>(fs[i]?).map fun f=>(f.2,(T f.1).size)) cells parts=JO T fs cells parts
 | [],_=>rfl
 | (i,d)::rest,cells=>by
  simp only [sW,JO];cases fs[i]? with
  | none=>rfl
  | some f =>
   cases cellsD d with
   | none=>rfl
   | some ys=>simp only [Option.map_some];rw [JP T fs rest _]
def JM (sz:Nat):List CV→List (Nat × DV)→Option (List CV)
 | cells,[]=>some cells
 | cells,(i,d)::rest =>
  match cellsD d with
  | some ys=>if ys.length=sz∧i*sz+sz≤cells.length then JM sz (splice cells (i*sz) ys) rest else none
  | _=>none
theorem JN (T:Tab) (sz:Nat):∀ (parts:List (Nat × DV)) (cells:List CV),sW T (fun i=>some (i*sz,sz)) cells parts=JM sz cells parts
 | [],_=>rfl
 | (i,d)::rest,cells=>by
  simp only [sW,JM];cases cellsD d with
  | none=>rfl
  | some ys=>simp only;rw [JN T sz rest _]
def zKt (o:Option (List CV)) (h:aB) (K:DV→aB→Prop):Prop :=
 match o with
 | some cells=>K (.agg cells) h
 | none=>False
theorem zCi {cells:List CV}:zKt (some cells) h K=K (.agg cells) h:=nr rfl
theorem zCd {fs:List (Nat × Nat)} {z:List PV} {parts:List (Nat × DV)}:zCf T (.struct fs) z parts h K=((∀ f∈fs,(T f.1).size≠0)∧zKt (JO T fs (z.map .p) parts) h K):=by
 rw [← JP];rfl
theorem zE0 {n e:Nat} {z:List PV} {parts:List (Nat × DV)}:zCf T (.array n e) z parts h K=((T e).size≠0∧zKt (JM (T e).size (z.map .p) parts) h K):=by
 rw [← JN T];rfl
theorem YF {ty:TypeId} {len:Nat} {l:List (Nat × Operand)}:dop P T (.buildSlice ty len l.toArray) t h K=uL T ty len (zHV t l) h K:=by
 rw [← KX];rfl
theorem zGi {ty:TypeId} {a:Operand}:dop P T (.load ty a) t h K=((T ty).size≠0∧qY (T ty) h (evD t a) (kD K h)):=nr rfl
theorem zC1 {ty:TypeId} {m x:Operand} {ok:Bool}:dop P T (.lookup ty m x ok) t h K=XV T (T ty).k h (evD t m) (evD t x) ok (kD K h):=nr rfl
theorem zGn {ty:TypeId} {m x v:Operand}:dop P T (.mapUpdate ty m x v) t h K=YA T (T ty).k h (evD t m) (evD t x) (evD t v) (kU K):=nr rfl
theorem zC2 {ty:TypeId}:dop P T (.makeMap ty none) t h K=FD (T ty).k h K:=nr rfl
theorem zC4 {ty:TypeId} {a x:Operand}:dop P T (.store ty a x) t h K=FJ (T ty) h (evD t a) (evD t x) (kU K):=nr rfl
def zJk (d:DV) (h:aB) (K:DV→aB→Prop):Prop :=
 match d with
 | .c (.ptr id off) =>
  match h[id]? with
  | some (.box _)=>K (.c (.ptr id off)) h
  | _=>False
 | .c (.eptr cs)=>K (.c (.eptr cs)) h
 | .c (.clo f cap)=>K (.c (.clo f cap)) h
 | _=>False
theorem zGl {x:Operand}:dop P T (.nilCheck x) t h K=zJk (evD t x) h K:=nr rfl
def zCe (P:Program) (ty:TypeId) (k:TI) (h:aB) (o:BinOp) (x y:DV) (K:DV→aB→Prop):Prop :=
 match zIT o x y with
 | some (id,b)=>zHY k.k (h[id]?) b h K
 | none=>ET o k x y (kP K h)∨zH6 P o ty x y (kP K h)
theorem zIe {o:BinOp} {ty ty':TypeId} {x y:Operand}:dop P T (.binOp o ty x y ty') t h K=zCe P ty (T ty) h o (evD t x) (evD t y) K:=nr rfl
theorem zFo {o:BinOp} {ty:TypeId} {x:CV} {y:DV} {K:PV→Prop}:zH6 P o ty (.c x) y K=False:=by
 refine eq_false ?_;rintro ⟨xs,ys,b,h,_⟩;cases h
theorem QF {ty:TypeId} {k:TI} {h:aB} {o:BinOp} {xs ys:List CV} (ps qs:List PV) (b:Bool) {K:DV→aB→Prop} (e1:xs=ps.map .p) (e2:ys=qs.map .p) (f1:ps.all (fun x=>(gB x).isSome)=true) (f2:qs.all (fun x=>(gB x).isSome)=true) (hE:zCC P ty ps qs b) (hK:(o=.eql∧K (.c (.p (.b b))) h)∨(o=.neq∧K (.c (.p (.b (!b)))) h)):zCe P ty k h o (.agg xs) (.agg ys) K:=by
 subst e1 e2;have:zIT o (.agg (ps.map .p)) (.agg (qs.map .p))=none:=by cases o <;> rfl
 unfold zCe;rw [this];exact .inr ⟨ps,qs,b,rfl,rfl,f1,f2,hE,hK⟩
theorem zJe {ty:TypeId} {k:TI} {h:aB} {o:BinOp} {x y:PV} {K:DV→aB→Prop}:zCe P ty k h o (.c (.p x)) (.c (.p y)) K=ET o k (.c (.p x)) (.c (.p y)) (kP K h):=by
 have e:zCe P ty k h o (.c (.p x)) (.c (.p y)) K=(ET o k (.c (.p x)) (.c (.p y)) (kP K h)∨zH6 P o ty (.c (.p x)) (.c (.p y)) (kP K h)):=by cases o <;> exact nr rfl
 rw [e,zFo,or_false]
theorem zJd {ty:TypeId} {k:TI} {h:aB} {o:BinOp} {id off len:Nat} {y:PV} {K:DV→aB→Prop}:zCe P ty k h o (.c (.own id off len)) (.c (.p y)) K=ET o k (.c (.own id off len)) (.c (.p y)) (kP K h):=by
 have e:zCe P ty k h o (.c (.own id off len)) (.c (.p y)) K=(ET o k (.c (.own id off len)) (.c (.p y)) (kP K h)∨zH6 P o ty (.c (.own id off len)) (.c (.p y)) (kP K h)):=by cases o <;> exact nr rfl
 rw [e,zFo,or_false]
theorem zJc {ty:TypeId} {k:TI} {h:aB} {id off:Nat} {K:DV→aB→Prop}:zCe P ty k h .eql (.c (.ptr id off)) (.c (.p (.o (.pointer none)))) K=zHY k.k (h[id]?) false h K:=nr rfl
theorem zJf {ty:TypeId} {k:TI} {h:aB} {id off:Nat} {K:DV→aB→Prop}:zCe P ty k h .neq (.c (.ptr id off)) (.c (.p (.o (.pointer none)))) K=zHY k.k (h[id]?) true h K:=nr rfl
theorem zJn {e:Nat} {c:List CV} {b:Bool} {h:aB} {K:DV→aB→Prop}:zHY (.ptr e) (some (.box c)) b h K=K (.c (.p (.b b))) h:=nr rfl
theorem zEI {j a b id:Nat}:PZ (.c (.own j a b)) id=(j == id):=nr rfl
theorem zEJ {x:PV} {id:Nat}:PZ (.c (.p x)) id=false:=nr rfl
attribute [go_sem] zJe zJd zJc zJf zJn zEI zEJ
theorem zJH {o:UnOp} {ty:TypeId} {x:Operand}:dop P T (.unOp o ty x) t h K=dun o (evD t x) (kP K h):=nr rfl
theorem zGf {src dst:TypeId} {x:Operand}:dop P T (.convert src dst x) t h K=XM T src dst (evD t x) h K:=nr rfl
def BA (t:Fr) (o:Option Operand) (d:Int):Option Int :=
 match o with
 | none=>some d
 | some x=>match evD t x with
  | .c (.p (.i _ n))=>some n
  | _=>none
def zCn (T:Tab) (k:TK) (h:aB) (x:DV) (lo hi:Int→Option Int) (K:DV→aB→Prop):Prop :=
 match k,x with
 | .str,.c (.p (.s l))=>match lo 0,hi l.length with
  | some a,some b=>0≤a∧a≤b∧b≤l.length∧K (.c (.p (.s ((l.take b.toNat).drop a.toNat)))) h
  | _,_=>False
 | .slice e,.c (.p (.sl k es))=>match lo 0,hi es.length with
  | some a,some b=>(T e).size≠0∧(T e).size=k∧0≤a∧a≤b∧b≤es.length∧K (.c (.p (.sl k ((es.take b.toNat).drop a.toNat)))) h
  | _,_=>False
 | .slice e,.c (.p .nil)=>match lo 0,hi 0 with
  | some a,some b=>(T e).size≠0∧0≤a∧a≤b∧b≤0∧K (.c (.p .nil)) h
  | _,_=>False
 | .slice e,.c (.own id off len) =>
  match h[id]? with
  | some (.arr k _ _)=>match lo 0,hi len with
   | some a,some b=>(T e).size≠0∧(T e).size=k∧0≤a∧a≤b∧b≤len∧K (.c (.own id (off+a.toNat) (b.toNat-a.toNat))) h
   | _,_=>False
  | _=>False
 | _,_=>False
theorem zFn (t:Fr) (o:Option Operand) (d:Int) (K:Int→Prop):bnd t o d K=match BA t o d with|some n=>K n|none=>False:=by
 cases o with
 | none=>rfl
 | some x =>
  simp only [bnd,BA];generalize evD t x=e;cases e with
  | c c=>cases c with
   | p p=>cases p <;> rfl
   | _=>rfl
  | _=>rfl
def zHK (T:Tab) (k:TK) (h:aB) (x:DV) (lo hi mx:Int→Option Int) (K:DV→aB→Prop):Prop :=
 match k,x with
 | .slice e,.c (.p (.sl k es))=>match lo 0,hi (-1),mx (-1) with
  | some a,some b,some c=>(T e).size≠0∧(T e).size=k∧a=0∧b=c∧0≤b∧b≤es.length∧K (.c (.full k (es.take b.toNat))) h
  | _,_,_=>False
 | _,_=>False
theorem zGg {ty:TypeId} {x mx:Operand} {lo hi:Option Operand}:dop P T (.slice ty x lo hi (some mx)) t h K=zHK T (T ty).k h (evD t x) (BA t lo) (BA t hi) (BA t (some mx)) K:=by
 show XQ T ty (evD t x) (bnd t lo) (bnd t hi) (bnd t (some mx)) (fun d=>K d h)=_;unfold XQ zHK;simp only [zFn];generalize (T ty).k=k;generalize evD t x=d;cases k with
 | slice e=>cases d with
  | c c=>cases c with
   | p p=>cases p with
    | sl k es =>
     simp only;cases BA t lo 0 <;> simp only [and_false];cases BA t hi (-1) <;> simp only [and_false];cases BA t (some mx) (-1) <;> simp only [and_false]
    | _=>rfl
   | _=>rfl
  | _=>rfl
 | _=>rfl
theorem zC3 {ty:TypeId} {x:Operand} {lo hi:Option Operand}:dop P T (.slice ty x lo hi none) t h K=zCn T (T ty).k h (evD t x) (BA t lo) (BA t hi) K:=by
 show FH T ty h (evD t x) (bnd t lo) (bnd t hi) (fun d=>K d h)=_;unfold FH zCn;simp only [zFn];generalize (T ty).k=k;generalize evD t x=d;cases k with
 | str=>cases d with
  | c c=>cases c with
   | p p=>cases p with
    | s l =>
     simp only;cases BA t lo 0 <;> simp only;cases BA t hi (l.length:Int) <;> rfl
    | _=>rfl
   | _=>rfl
  | _=>rfl
 | slice e=>cases d with
  | c c=>cases c with
   | p p=>cases p with
    | nil =>
     simp only;cases BA t lo 0 <;> simp only [and_false];cases BA t hi 0 <;> simp only [and_false]
    | sl k es =>
     simp only;cases BA t lo 0 <;> simp only [and_false];cases BA t hi (es.length:Int) <;> simp only [and_false]
    | _=>rfl
   | own id off len =>
    simp only;cases h[id]? with
    | none=>rfl
    | some b=>cases b with
     | arr k es r =>
      simp only;cases BA t lo 0 <;> simp only [and_false];cases BA t hi (len:Int) <;> simp only [and_false]
     | _=>rfl
   | _=>rfl
  | _=>rfl
 | _=>rfl
theorem YG {s f:Nat} {x:Operand}:dop P T (.fieldAddr s x f) t h K=EY T s h (evD t x) f (kD K h):=nr rfl
def zFS (T:Tab) (k:TK) (x:DV) (f:Nat) (K:DV→Prop):Prop :=
 match k,x with
 | .struct fs,.agg cells =>
  match fs[f]? with
  | some (ft,off)=>YM (T ft) cells off K
  | none=>False
 | _,_=>False
theorem zCZ {ty f:Nat} {x:Operand}:dop P T (.field ty x f) t h K=zFS T (T ty).k (evD t x) f (kD K h):=nr rfl
theorem YH {ty:Nat} {x i:Operand}:dop P T (.indexAddr ty x i) t h K=uP T ty h (evD t x) (evD t i) (kD K h):=nr rfl
theorem zC0 {ty:Nat} {x i:Operand}:dop P T (.index ty x i) t h K=EZ T ty (evD t x) (evD t i) (kD K h):=nr rfl
def QG (d:DV) (n:Nat) (h:aB) (K:DV→aB→Prop):Prop :=
 match d with
 | .tup xs =>
  match xs[n]? with
  | some e=>K e.toDV h
  | none=>False
 | _=>False
theorem RM {x:Operand} {n:Nat}:dop P T (.extract x n) t h K=QG (evD t x) n h K:=nr rfl
def zKo (f:FuncId) (c:Option (List KV)) (h:aB) (K:DV→aB→Prop):Prop :=
 match c with
 | some cap=>K (.c (.clo f cap)) h
 | none=>False
theorem zGh {f:FuncId} {l:List Operand}:dop P T (.makeFunc (.func f) #[] l.toArray) t h K=zKo f (BB (evL t l)) h K:=by
 rw [← FR];simp only [dop,zKo];cases BB (List.map (evD t) l) <;> rfl
theorem zGj {ty:Nat} {l c:Operand}:dop P T (.makeSlice ty l c) t h K=XX T ty (evD t l) (evD t c) h K:=nr rfl
def zJi (P:Program) (d:DV) (args:List DV) (h:aB) (K:DV→aB→Prop):Prop :=
 match d with
 | .c (.clo g cap)=>aA P g (args++cap.map KV.toDV) h K
 | _=>False
theorem zGe {f:Operand} {l:List Operand} {ats:Array TypeId}:dop P T (.call { callee:=.value f,args:=l.toArray,argTypes:=ats }) t h K=zJi P (evD t f) (evL t l) h K:=by
 rw [← FR];simp only [dop];rfl
theorem zIg {ty:Nat} {tys:List Nat} {x:Operand}:dop P T (.call { callee:=.builtin .len,args:=[x].toArray,argTypes:=(ty::tys).toArray }) t h K=dlen (T ty) h (evD t x) (kD K h):=by
 simp only [dop];rfl
theorem YD {ty tu:Nat} {x y:Operand}:dop P T (.call { callee:=.builtin .append,args:=[x,y].toArray,argTypes:=[ty,tu].toArray }) t h K=uJ T ty tu (evD t x) (evD t y) h K:=by
 simp only [dop]
theorem zCY {ty:Nat} {x:Operand}:dop P T (.call { callee:=.builtin .clear,args:=[x].toArray,argTypes:=[ty].toArray }) t h K=EX T ty (evD t x) h K:=by
 simp only [dop]
theorem zIi {l:List Operand} {ats:Array TypeId}:dop P T (.call { callee:=.builtin .min,args:=l.toArray,argTypes:=ats }) t h K=dmm true (evL t l) (kD K h):=by
 rw [← FR];simp only [dop];rfl
theorem zIh {l:List Operand} {ats:Array TypeId}:dop P T (.call { callee:=.builtin .max,args:=l.toArray,argTypes:=ats }) t h K=dmm false (evL t l) (kD K h):=by
 rw [← FR];simp only [dop];rfl
end g
section b
variable {k:IntKind} {a b:Int} {x y:List UInt8} {K:PV→Prop} {T0:TI}
theorem db_i {op:BinOp} {k':IntKind} (h1:op≠.shl) (h2:op≠.shr):ET op T0 (.c (.p (.i k a))) (.c (.p (.i k' b))) K=(k=k'∧zIc op k a b K):=by
 cases op <;> first|rfl|exact absurd rfl h1|exact absurd rfl h2
theorem zH8 {k':IntKind}:ET .shl T0 (.c (.p (.i k a))) (.c (.p (.i k' b))) K=(0≤b∧K (.i k (k.wrap (a*2 ^ (min b.toNat k.bits))))):=nr rfl
theorem zH9 {k':IntKind}:ET .shr T0 (.c (.p (.i k a))) (.c (.p (.i k' b))) K=(0≤b∧K (.i k (a.fdiv (2 ^ (min b.toNat k.bits))))):=nr rfl
theorem db_s {op:BinOp}:ET op T0 (.c (.p (.s x))) (.c (.p (.s y))) K=zIo op x y K:=nr rfl
theorem db_f {op:BinOp} {x y:Nat}:ET op T0 (.c (.p (.f x))) (.c (.p (.f y))) K=zIa op x y K:=nr rfl
def vbb (k:TK) (op:BinOp) (a b:Bool) (K:PV→Prop):Prop :=
 match k,op with
 | .bool,.eql=>K (.b (a == b))
 | .bool,.neq=>K (.b (!(a == b)))
 | _,_=>False
theorem db_b {op:BinOp} {x y:Bool}:ET op T0 (.c (.p (.b x))) (.c (.p (.b y))) K=vbb T0.k op x y K:=nr rfl
def vnl (k:TK) (op:BinOp) (x:PV) (K:PV→Prop):Prop :=
 match k,op with
 | .slice _,.eql=>zA6 x (kB K)
 | .slice _,.neq=>zA6 x (kN K)
 | _,_=>False
theorem db_n {op:BinOp} {x:PV}:ET op T0 (.c (.p x)) (.c (.p .nil)) K=vnl T0.k op x K:=by
 cases x <;> rfl
end b
end
end Go.Dm
end
section
namespace Go.Dm
open Go
theorem wrap_u64 {n:Int} (h1:0≤n) (h2:n≤18446744073709551615):IntKind.u64.wrap n=n:=by
 simp only [IntKind.wrap,IntKind.bits,IntKind.signed,Bool.false_and,Bool.false_eq_true,if_false];omega
theorem wrap_u8 {n:Int} (h1:0≤n) (h2:n≤255):IntKind.u8.wrap n=n:=by
 simp only [IntKind.wrap,IntKind.bits,IntKind.signed,Bool.false_and,Bool.false_eq_true,if_false];omega
theorem zFf (b:UInt8):IntKind.u8.wrap (b.toNat:Int)=b.toNat:=wrap_u8 (by omega) (by have:=b.toNat_lt;omega)
theorem zCv (b:UInt8):IntKind.i64.wrap (b.toNat:Int)=b.toNat:=wrap_i64 (by omega) (by have:=b.toNat_lt;omega)
theorem zCw (b:UInt8):IntKind.u64.wrap (b.toNat:Int)=b.toNat:=wrap_u64 (by omega) (by have:=b.toNat_lt;omega)
def JU (h':aB) (dst:Option Tmp) (v:DV):DS→Prop:=fun s'=>s'.h=h'∧res s' dst=v
section
variable {P:Program} {T:Tab} {X0:Ctx}
theorem zAH {h h':aB} {i:Nat} {v:DV} {n:Nat} {t:Fr}:JU h' (some i) v ⟨n,t,h⟩=(h=h'∧look t i=v):=nr rfl
theorem zAG {h h':aB} {v:DV} {n:Nat} {t:Fr}:JU h' none v ⟨n,t,h⟩=(h=h'∧.tup []=v):=nr rfl
theorem GQ {S:List Nat} {j:Nat} {t:Fr} (h:S.contains j=true):look (keep S t) j=look t j:=by rw [mC,if_pos h]
theorem zGr {l:List Oper} {n i:Nat} {rest:List Nat} {t:Fr} {h:aB} {K:DS→Prop} {o:Oper} (v:DV) (ho:l[i]? = some o)
  (h1:∀ S:List Nat,S=o.looksAt l.toArray→jK P T l.toArray [o] ⟨n,keep S t,h⟩ (JU h o.dst v)) (h3:rC P T l.toArray n [] K rest (JW t o.dst v) [h]):rC P T l.toArray n [] K (i::rest) t [h] :=
 FG v (by simpa using ho) rfl (h1 _ rfl) (by simp) h3
theorem zGs {l:List Oper} {n i:Nat} {chain rest:List Nat} {t:Fr} {h:aB} {old:List aB} {K:DS→Prop} {o:Oper} (v:DV) (ho:l[i]? = some o) (hc:chain.contains i=false)
  (h1:∀ S:List Nat,S=o.looksAt l.toArray→∀ h0∈h::old.take (old.length-zID l.toArray chain i),jK P T l.toArray [o] ⟨n,keep S t,h0⟩ (JU h0 o.dst v)) (h3:rC P T l.toArray n chain K rest (JW t o.dst v) (h::old)):
  rC P T l.toArray n chain K (i::rest) t (h::old) :=
 FG v (by simpa using ho) hc (h1 _ rfl h (by simp)) (fun h0 hh=>h1 _ rfl h0 (by simp [hh])) h3
theorem zJK {l:List Oper} {n i:Nat} {chain rest:List Nat} {t:Fr} {h:aB} {old:List aB} {K:DS→Prop} {o:Oper} (v:DV) (h':aB) (ho:l[i]? = some o) (hc:chain.contains i=true)
  (h1:∀ S:List Nat,S=o.looksAt l.toArray→jK P T l.toArray [o] ⟨n,keep S t,h⟩ (JU h' o.dst v)) (h3:rC P T l.toArray n chain K rest (JW t o.dst v) (h' :: h::old)):
  rC P T l.toArray n chain K (i::rest) t (h::old) :=
 zGt v h' (by simpa using ho) hc (h1 _ rfl) h3
theorem bC {l:List Oper} {n:Nat} {chain:List Nat} {t:Fr} {h:aB} {old:List aB} {K:DS→Prop} (hk:K ⟨n,t,h⟩):rC P T l.toArray n chain K [] t (h::old):=zC6 hk
theorem zE2 {id:Nat} {ops:Array Oper} {s:DS} {Q:Exit→DS→Prop}:vc P T X0 (.region id ops true) s Q=SWP P X0 (.region id ops true) s Q:=nr rfl
theorem aO (hT:bG P T) (hm:P.follows .mixedOrders=true) {id:Nat} {l:List Oper} {n:Nat} {t:Fr} {h:aB} {Q:Exit→DS→Prop} (chain order:List Nat) (hp:pX l.toArray n chain order=true) (hd:rC P T l.toArray n chain (Q .normal) order t [h]):
  SWP P X0 (.region id l.toArray true) ⟨n,t,h⟩ Q:=swp_drawn hT hm chain order hp hd
theorem aF {t:Fr} {i:Nat} {v:DV}:JW t (some i) v=(i,v)::t:=nr rfl
theorem bF {t:Fr} {v:DV}:JW t none v=t:=nr rfl
end
section use
variable {P:Program} {f:FuncId} {args args':List DV} {h:aB} {r:DV} {K:DV→aB→Prop}
theorem aQ (hc:aA P f args [] fun d h'=>d=r∧h'=[]) (hp:gR h args=some args) (hfl:KZ r=true) (hk:K r h):aA P f args h K:=aA.useFlat hc hp hfl hk
theorem cH (hc:aA P f args [] fun d h'=>d=r∧h'=[]) (hp:gR h args=some args) (hsh:∀ n,r.sh n=r) (hk:K r (sC h (jO args))):aA P f args h K:=aA.use hc hp hsh hk
theorem zCb {α:Type} {C:α→Prop} {e:α→DV} (hc:aA P f args [] fun d h'=>∃ x,C x∧d=e x∧h'=[]) (hp:gR h args=some args) (hfl:∀ x,C x→KZ (e x)=true) (hk:∀ x,C x→K (e x) h):aA P f args h K :=
 (aA.flat h hp (fun d h0 ⟨x,hx,hd,_⟩=>by rw [hd];exact hfl x hx) hc).mono fun d h' ⟨⟨h0,x,hx,h1,h2⟩,h3⟩=>by
  rw [h1,h3];exact hk x hx
theorem aA.frz (hne:(jO args).isEmpty=false) (hp:gR h args=some args') (hd:aA P f args' (sC h (jO args)) K):aA P f args h K:=by
 intro X vals hh hi gd hr;obtain ⟨X',h1,h2,h3,h4,h5,h6⟩:=iD (jO args) hi;rw [← hh] at hp hd;have hr':cZ X' args' vals:=jQ (Y:=X') hi h4 h1 rfl rfl hr hp h6;have key:∀ v w',Ret X' K v w'→Ret X K v w':=fun v w' ⟨d,Y,k1,k2,k3,k4,k5⟩=>⟨d,Y,k1,k2,h4.trans h5 k3,k4,k5⟩;rw [← h1];rcases hd X' vals h2 h5 (gd.step h4) hr' with ⟨h7,h8⟩|⟨v,w',h7,h8⟩
 ·exact .inl ⟨h7,h8.mono fun e w' ⟨v,he,hv⟩=>⟨v,he,key _ _ hv⟩⟩
 ·exact .inr ⟨v,w',h7,key _ _ h8⟩
end use
attribute [go_sem] Nat.zero_add Nat.add_zero Nat.mul_one zC8 List.take_length List.drop_zero List.length_map
attribute [go_sem] cond_true cond_false
attribute [go_sem] wrap_i64 wrap_u64 wrap_u8 zFf zCv zCw zHH zJg zHF zJh zE1 zHE zCg zE2 zHG zKv zKw zKu qb_n qb_r qb_e ql_e ql_r zHL zHM zHJ zHI zJl zJm zE3 zGI zGH
 zAO zAN zJX zJV zJU zJW zJY zKs zKp zKr zKq zJj vp_t vp_f vp_b zGk YE zGm zCh zCW zKG zIf zHV evL zCX JO JM zCi zCd zE0 YF
 zGi zC4 zJk zGl zIe zJH zGf BA zCn zC3 zHK zGg YG zFS zCZ YH zC0 QG RM zKo zGh zGj zJi zGe zIg YD zCY zIi zIh
 db_i zH8 zH9 db_s db_f vbb db_b vnl db_n zAH zAG aF bF
attribute [go_sem] zC1 zGn zC2 XV YA FD zIw zG3 zIM zIN zIO zEn
attribute [go_sem] VV zFk BE zGA zAf zDL RX EM aD zIc zIa zIo dun qY FJ EY YM uP EZ XM uL dlen uJ EX uT dmm XX cellsD EV.toDV KV.toDV BB zF4 zF3 TK.agg splice cellss zFC pvs WB zGJ vE zAw
 zBM KT gR KL zDK yI zHc zIb jO zJL RQ sC zCA bK aG cC lO jG zEo GZ LX zA7 zA8 rY mZ DV.sh CV.sh EV.sh KV.sh zDP FV zAm KZ
attribute [go_sem] List.getElem?_cons_zero List.getElem?_cons_succ List.map_cons List.map_nil List.take_succ_cons List.take_zero List.take_nil List.drop_succ_cons List.drop_zero List.drop_nil List.nil_append List.cons_append List.append_nil List.set_cons_zero List.set_cons_succ
 List.length_cons List.length_nil List.length_append List.length_singleton List.all_cons List.all_nil List.reverse_cons List.reverse_nil Option.map_some Option.map_none Option.bind_some List.getD_cons_zero List.getD_cons_succ List.isEmpty_nil
 ne_eq not_false_eq_true not_true_eq_false true_and and_true false_and and_false reduceCtorEq decide_true decide_false Bool.false_eq_true Int.toNat_natCast Bool.not_true Bool.not_false eq_self true_implies false_implies List.forall_mem_cons forall_const implies_true List.not_mem_nil List.mem_cons or_false forall_eq_or_imp forall_eq Int.cast_ofNat_Int
 List.toList_toArray Bool.and_true Bool.true_and Bool.and_false Bool.false_and Bool.or_false Bool.or_true Bool.true_or Bool.false_or
end Go.Dm
end
section
namespace Go.Dm
open Go
section
variable {P:Program} {T:Tab} {X0:Ctx} {c:Code} {Q:Exit→DS→Prop}
def VR (P:Program) (T:Tab) (X0:Ctx) (c:Code) (Q:Exit→DS→Prop):Nat→DS→Prop
 | 0,_=>False
 | n+1,s=>vc P T X0 c s fun e s'=>match e with
  | .normal=>VR P T X0 c Q n s'
  | e=>Q e s'
def GJ (P:Program) (T:Tab) (X0:Ctx) (c:Code) (Q:Exit→DS→Prop) (n:Nat):Exit→DS→Prop:=fun e s'=>match e with
 | .normal=>Later (VR P T X0 c Q n s')
 | e=>Q e s'
theorem zF0 {n:Nat} {s:DS}:VR P T X0 c Q (n+1) s=vc P T X0 c s (GJ P T X0 c Q n):=by
 have e:GJ P T X0 c Q n=fun e s'=>match e with
   | .normal=>VR P T X0 c Q n s'
   | e=>Q e s':=by
  funext e s'
  cases e <;> first|rfl|exact pO _
 rw [e];rfl
theorem kr_n {n:Nat} {s:DS}:GJ P T X0 c Q n .normal s=VR P T X0 c Q n s:=pO _
theorem kr_r {n:Nat} {s:DS}:GJ P T X0 c Q n .ret s=Q .ret s:=nr rfl
theorem kr_e {n:Nat} {id:Nat} {s:DS}:GJ P T X0 c Q n (.exit id) s=Q (.exit id) s:=nr rfl
theorem gD (hT:bG P T) (hm:P.follows .mixedOrders=true) (n:Nat) {s:DS} (h:VR P T X0 c Q n s):SWP P X0 (.loop c) s Q:=by
 intro gd X a hh hi hs ht;refine wp_loop_rounds n ?_
 induction n generalizing s X a with
 | zero=>exact h.elim
 | succ n ih =>
  refine wp_mono (dK hT hm c h gd X a hh hi hs ht) fun e a' w' hp=>?_;obtain ⟨s',Z,p1,rfl,p3,p4,p5,p6⟩:=hp;cases e <;> simp only [Exit.then] at p1 ⊢
  case normal=>exact ih p1 Z a' p3 p4 p5 p6
  all_goals exact ⟨s',Z,p1,rfl,p3,p4,p5,p6⟩
theorem aJ {n0 n:Nat} {t t':Fr} {h h':aB} (h0:(Nat.ble n0 h'.length)=true) (h1:h'=h.take h'.length) (h2:h'.all (bK h'.length)=true) (h3:WkT h'.length t t'):DX n0 ⟨n,t,h⟩ ⟨n,t',h'⟩ :=
 ⟨rfl,Nat.le_of_ble_eq_true h0,h1,h2,h3⟩
theorem aN {n:Nat} {t:Fr}:WkT n t []=True:=nr rfl
theorem aH {n:Nat} {t t':Fr} {i:Nat} {d:DV}:WkT n t ((i,d)::t')=((look t i=d∧aL n d=true)∧WkT n t t'):=nr rfl
theorem DL (hT:bG P T) (hm:P.follows .mixedOrders=true) {n:Nat} {t:Fr} {h:aB} (i k:Nat) (hn:look t i=.c (.p .nil)) (hd:SWP P X0 c ⟨n,(i,.c (.own h.length 0 0))::t,h++[.arr k [] false]⟩ Q):SWP P X0 c ⟨n,t,h⟩ Q :=
 zEW i k hn hd
end
theorem zHN {k:Nat}:wkD (.c (.p .nil)) (.c (.p (.sl k []))):=zCt
theorem zHO {x:PV}:wkD (.c (.p x)) (.c (.p x)):=wkP.rfl
theorem allB (l:List UInt8):(∀ x∈bW l,x.length=1)=True:=eq_true (zC9 l)
theorem zC7 (a b:List UInt8):bW a++bW b=bW (a++b):=(KU a b).symm
theorem zH5 (n:Int) (l:List UInt8) (h1:0≤n) (h2:n≤255):[PV.i .u8 n]::bW l=bW (UInt8.ofNat n.toNat::l):=by
 simp only [bW,List.map_cons]
 congr 2
 have:(UInt8.ofNat n.toNat).toNat=n.toNat:=by rw [UInt8.toNat_ofNat'];omega
 rw [this]
 congr 1
 omega
theorem zHx {α:Type} (n:Nat) (a:α) (l:List α):List.take (1+n) (a::l)=a::List.take n l:=by rw [Nat.add_comm];rfl
theorem zHy {α:Type} (n:Nat) (a:α) (l:List α):List.take (2+n) (a::l)=a::List.take (1+n) l:=by rw [show 2+n=(1+n)+1 by omega];rfl
theorem zHz {α:Type} (n:Nat) (a:α) (l:List α):List.take (3+n) (a::l)=a::List.take (2+n) l:=by rw [show 3+n=(2+n)+1 by omega];rfl
attribute [go_sem] zH5 zHx zHy zHz
attribute [go_sem] YP YO allB zC7
attribute [go_sem] exists_eq_right wkD wkE zHP wkC zCs wkP
attribute [go_sem] zF0 kr_n kr_r kr_e aN aH aL
end Go.Dm
end
section
namespace Go.Dm
open Go
section
variable {P:Program} {T:Tab} {X0:Ctx}
theorem zDM {S:List Nat} {t:Fr} {x:Operand} (h:∀ i,x=.tmp i→S.contains i=true):evD (keep S t) x=evD t x:=by
 cases x with
 | tmp i=>simp only [evD];exact GQ (h i rfl)
 | _=>rfl
theorem zC5 {S:List Nat} {t:Fr} {op:Op} {h:aB} {K:DV→aB→Prop} (hS:∀ x∈op.operands.toList,∀ i,x=.tmp i→S.contains i=true):dop P T op (keep S t) h K=dop P T op t h K:=by
 have e:∀ x∈op.operands.toList,evD (keep S t) x=evD t x:=fun x hx=>zDM (hS x hx);have em:∀ l:List Operand,(∀ x∈l,x∈op.operands.toList)→l.map (evD (keep S t))=l.map (evD t):=fun l hl=>List.map_congr_left fun x hx=>e x (hl x hx);cases op with
 | move x=>simp only [dop,e x (by simp [Op.operands])]
 | assign x=>simp only [dop,e x (by simp [Op.operands])]
 | pick c a b=>simp only [dop,e c (by simp [Op.operands]),e a (by simp [Op.operands]),e b (by simp [Op.operands])]
 | alloc ty=>rfl
 | box ty x=>simp only [dop,e x (by simp [Op.operands])]
 | build ty ps =>
  simp only [dop];rw [List.map_congr_left (g:=fun p=>(p.1,evD t p.2)) fun p hp=>by rw [e p.2 (by simp only [Op.operands,List.toList_toArray,List.mem_map];exact ⟨p,hp,rfl⟩)]]
 | buildSlice ty n ps =>
  simp only [dop];rw [List.map_congr_left (g:=fun p=>(p.1,evD t p.2)) fun p hp=>by rw [e p.2 (by simp only [Op.operands,List.toList_toArray,List.mem_map];exact ⟨p,hp,rfl⟩)]]
 | load ty x=>simp only [dop,e x (by simp [Op.operands])]
 | store ty a v=>simp only [dop,e a (by simp [Op.operands]),e v (by simp [Op.operands])]
 | nilCheck x=>simp only [dop,e x (by simp [Op.operands])]
 | binOp o ty a v ty'=>simp only [dop,e a (by simp [Op.operands]),e v (by simp [Op.operands])]
 | unOp o ty x=>simp only [dop,e x (by simp [Op.operands])]
 | convert s d x=>simp only [dop,e x (by simp [Op.operands])]
 | slice ty x lo hi mx =>
  have e1:=e x (by simp [Op.operands]);have e2:∀ d K,bnd (keep S t) lo d K=bnd t lo d K:=fun d K=>by
   cases lo with
   | none=>rfl
   | some y=>simp only [bnd,e y (by simp [Op.operands])]
  have e3:∀ d K,bnd (keep S t) hi d K=bnd t hi d K:=fun d K=>by
   cases hi with
   | none=>rfl
   | some y=>simp only [bnd,e y (by simp [Op.operands])]
  have e4:∀ d K,bnd (keep S t) mx d K=bnd t mx d K:=fun d K=>by
   cases mx with
   | none=>rfl
   | some y=>simp only [bnd,e y (by simp [Op.operands])]
  have e2:bnd (keep S t) lo=bnd t lo:=funext fun d=>funext fun K=>e2 d K;have e3:bnd (keep S t) hi=bnd t hi:=funext fun d=>funext fun K=>e3 d K;have e4:bnd (keep S t) mx=bnd t mx:=funext fun d=>funext fun K=>e4 d K;cases mx with
  | some y =>
   simp only [dop];rw [e2,e3,e4,e1]
  | none =>
   simp only [dop];rw [e2,e3,e1]
 | fieldAddr s x f=>simp only [dop,e x (by simp [Op.operands])]
 | field ty x f=>simp only [dop,e x (by simp [Op.operands])]
 | indexAddr ty a v=>simp only [dop,e a (by simp [Op.operands]),e v (by simp [Op.operands])]
 | index ty a v=>simp only [dop,e a (by simp [Op.operands]),e v (by simp [Op.operands])]
 | extract x n=>simp only [dop,e x (by simp [Op.operands])]
 | makeFunc f first cap =>
  cases f with
  | func f =>
   simp only [dop];rw [em cap.toList fun x hx=>by simp only [Op.operands,Array.toList_append,List.mem_append];exact .inr hx]
  | _=>rfl
 | makeSlice ty a v=>simp only [dop,e a (by simp [Op.operands]),e v (by simp [Op.operands])]
 | makeMap ty r =>
  cases r with
  | none=>rfl
  | some _=>rfl
 | lookup ty m x ok=>simp only [dop,e m (by simp [Op.operands]),e x (by simp [Op.operands])]
 | mapUpdate ty m x v=>simp only [dop,e m (by simp [Op.operands]),e x (by simp [Op.operands]),e v (by simp [Op.operands])]
 | call c =>
  obtain ⟨cal,args,ats⟩:=c;have ea:args.toList.map (evD (keep S t))=args.toList.map (evD t):=em _ fun x hx=>by
   simp only [Op.operands,Call.operands,Array.toList_append,List.mem_append];exact .inr hx
  cases cal with
  | value f =>
   have ef:=e f (by simp [Op.operands,Call.operands]);simp only [dop,ea,ef]
  | invoke r m=>rfl
  | builtin b =>
   have eone:∀ x∈args.toList,evD (keep S t) x=evD t x:=fun x hx=>e x (by simp only [Op.operands,Call.operands,Array.toList_append,List.mem_append];exact .inr hx);cases b with
   | len =>
    simp only [dop];split
    ·rename_i hx;rw [eone _ (by rw [hx];simp)]
    ·rfl
   | append =>
    simp only [dop];split
    ·rename_i hx;rw [eone _ (by rw [hx];simp),eone _ (by rw [hx];simp)]
    ·rfl
   | clear =>
    simp only [dop];split
    ·rename_i hx;rw [eone _ (by rw [hx];simp)]
    ·rfl
   | min=>simp only [dop,ea]
   | max=>simp only [dop,ea]
   | _=>rfl
 | _=>rfl
theorem uR {l:List Oper} {o:Oper} {n:Nat} {t:Fr} {h h':aB} {v:DV} {S:List Nat} (hS:S=o.looksAt l.toArray) (hn:(match o.dst with|some i=>Nat.blt i n|none=>true)=true)
  (hd:jK P T l.toArray [o] ⟨n,t,h⟩ (JU h' o.dst v)):jK P T l.toArray [o] ⟨n,keep S t,h⟩ (JU h' o.dst v):=by
 have hop:∀ K,dop P T o.op (keep S t) h K=dop P T o.op t h K:=fun K=>zC5 fun x hx i hi=>by
  subst hi;subst hS;simp only [Oper.looksAt,List.contains_eq_mem,List.mem_append,decide_eq_true_eq];exact .inl (List.mem_filterMap.2 ⟨_,hx,rfl⟩)
 have hk:∀ d h0,JU h' o.dst v (DS.put ⟨n,keep S t,h⟩ o.dst d h0)=JU h' o.dst v (DS.put ⟨n,t,h⟩ o.dst d h0):=by
  intro d h0;cases hd':o.dst with
  | none=>rfl
  | some i =>
   rw [hd'] at hn;have hi:i<n:=Nat.blt_eq.mp hn;simp only [DS.put,if_pos hi,JU,res,aD,if_true]
 have hk':(fun d h0=>jK P T l.toArray [] (DS.put ⟨n,keep S t,h⟩ o.dst d h0) (JU h' o.dst v))=fun d h0=>jK P T l.toArray [] (DS.put ⟨n,t,h⟩ o.dst d h0) (JU h' o.dst v):=by
  funext d h0;exact hk d h0
 simp only [jK] at hd ⊢;cases hg:o.guard with
 | none =>
  simp only [hg] at hd ⊢;rw [hop];simp only [hk];exact hd
 | some g =>
  obtain ⟨j,b⟩:=g;simp only [hg] at hd ⊢;have hgv:((l.toArray[j]?).bind (·.dst)).map (fun i=>look (keep S t) i)=((l.toArray[j]?).bind (·.dst)).map fun i=>look t i:=by
   cases hy:(l.toArray[j]?).bind (·.dst) with
   | none=>rfl
   | some i =>
    simp only [Option.map_some];rw [GQ];subst hS;simp only [Oper.looksAt,hg,hy,List.contains_eq_mem,List.mem_append,decide_eq_true_eq];exact .inr (by simp)
  rw [hgv];simp only [hop,hk];exact hd
theorem dF {l:List Oper} {n i:Nat} {rest:List Nat} {t:Fr} {h:aB} {K:DS→Prop} {o:Oper} (v:DV) (ho:l[i]? = some o) (hn:(match o.dst with|some i=>Nat.blt i n|none=>true)=true)
  (h1:jK P T l.toArray [o] ⟨n,t,h⟩ (JU h o.dst v)) (h3:rC P T l.toArray n [] K rest (JW t o.dst v) [h]):rC P T l.toArray n [] K (i::rest) t [h] :=
 zGr v ho (fun _ hS=>uR hS hn h1) h3
theorem dB {l:List Oper} {n i:Nat} {chain rest:List Nat} {t:Fr} {h:aB} {old:List aB} {K:DS→Prop} {o:Oper} (v:DV) (h':aB) (ho:l[i]? = some o) (hn:(match o.dst with|some i=>Nat.blt i n|none=>true)=true) (hc:chain.contains i=true)
  (h1:jK P T l.toArray [o] ⟨n,t,h⟩ (JU h' o.dst v)) (h3:rC P T l.toArray n chain K rest (JW t o.dst v) (h' :: h::old)):rC P T l.toArray n chain K (i::rest) t (h::old) :=
 zJK v h' ho hc (fun _ hS=>uR hS hn h1) h3
theorem zIn {l:List Oper} {n i:Nat} {chain rest:List Nat} {t:Fr} {h:aB} {old:List aB} {K:DS→Prop} {o:Oper} (v:DV) (ho:l[i]? = some o) (hn:(match o.dst with|some i=>Nat.blt i n|none=>true)=true) (hc:chain.contains i=false)
  (h1:∀ h0∈h::old.take (old.length-zID l.toArray chain i),jK P T l.toArray [o] ⟨n,t,h0⟩ (JU h0 o.dst v)) (h3:rC P T l.toArray n chain K rest (JW t o.dst v) (h::old)):rC P T l.toArray n chain K (i::rest) t (h::old) :=
 zGs v ho hc (fun _ hS h0 hh=>uR hS hn (h1 h0 hh)) h3
theorem dA {l:List Oper} {n i:Nat} {chain rest:List Nat} {t:Fr} {h:aB} {old:List aB} {K:DS→Prop} {o:Oper} (v:DV) (ho:l[i]? = some o) (hn:(match o.dst with|some i=>Nat.blt i n|none=>true)=true) (hc:chain.contains i=false)
  (h1:∀ h0∈h::old,jK P T l.toArray [o] ⟨n,t,h0⟩ (JU h0 o.dst v)) (h3:rC P T l.toArray n chain K rest (JW t o.dst v) (h::old)):rC P T l.toArray n chain K (i::rest) t (h::old) :=
 zIn v ho hn hc (fun h0 hh=>h1 h0 (by
  rcases List.mem_cons.1 hh with e|e
  ·exact e▸List.mem_cons_self
  ·exact List.mem_cons_of_mem _ (List.mem_of_mem_take e))) h3
theorem bI {p:aB→Prop}:∀ h∈([]:List aB),p h:=fun _ h=>by cases h
theorem bA {p:aB→Prop} {h:aB} {l:List aB} (h1:p h) (h2:∀ x∈l,p x):∀ x∈h::l,p x:=fun x hx=>by
 rcases List.mem_cons.1 hx with e|e
 ·exact e▸h1
 ·exact h2 x e
end
end Go.Dm
end
section
namespace Go.Dm
open Go
def zIX (a b:Nat):KV→Bool
 | .p _=>true
 | .ptr i _=>decide (i≠a) && decide (i≠b)
def zBD (a b:Nat):CV→Option CV
 | .p x=>some (.p x)
 | .own i off len=>if i=b then some (.own a off len) else if i=a then none else some (.own i off len)
 | .ptr i off=>if i=a then none else if i=b then none else some (.ptr i off)
 | .aptr i x y=>if i=a then none else if i=b then none else some (.aptr i x y)
 | .mp i=>if i=a then none else if i=b then none else some (.mp i)
 | .bs i n=>if i=a then none else if i=b then none else some (.bs i n)
 | .eptr cs=>some (.eptr cs)
 | .full k es=>some (.full k es)
 | .clo f cap=>if cap.all (zIX a b) then some (.clo f cap) else none
def rO (a b:Nat):List CV→Option (List CV)
 | []=>some []
 | c::cs=>match zBD a b c,rO a b cs with
  | some x,some xs=>some (x::xs)
  | _,_=>none
def WC (a b:Nat):DV→DV
 | .jk=>.jk
 | .c x=>match zBD a b x with
  | some y=>.c y
  | none=>.jk
 | .agg xs=>match rO a b xs with
  | some ys=>.agg ys
  | none=>.jk
 | .tup []=>.tup []
 | .tup _=>.jk
def zBF (a b:Nat):Fr→Fr
 | []=>[]
 | p::t=>(p.1,WC a b p.2)::zBF a b t
def renB (a b:Nat):DB→DB
 | .box cells=>match rO a b cells with
  | some c=>.box c
  | none=>.dead
 | x=>x
def zFG (a b:Nat):aB→aB
 | []=>[]
 | x::l=>renB a b x::zFG a b l
def zHb (a b:Nat) (h:aB):aB:=((zFG a b h).set a (h.getD b .dead)).set b .dead
theorem PN (a b:Nat) (i:Nat):∀ t:Fr,look (zBF a b t) i=WC a b (look t i)
 | []=>rfl
 | p::t=>by
  simp only [zBF,look];split
  ·rfl
  ·exact PN a b i t
theorem zBE (a b:Nat):∀ (h:aB) (i:Nat),(zFG a b h)[i]? = (h[i]?).map (renB a b)
 | [],i=>by simp [zFG]
 | x::l,0=>rfl
 | x::l,i+1=>by simp only [zFG,List.getElem?_cons_succ];exact zBE a b l i
theorem CY (a b:Nat):∀ h:aB,(zFG a b h).length=h.length
 | []=>rfl
 | x::l=>by simp [zFG,CY a b l]
theorem jD (a b:Nat) (h:aB):(zHb a b h).length=h.length:=by simp [zHb,CY]
theorem iM {a b:Nat} {x:DB} (h:(renB a b x).live=true):x.live=true∧(renB a b x).fix=x.fix:=by
 cases x with
 | box cells=>exact ⟨rfl,by simp only [renB];split <;> rfl⟩
 | dead=>simp [renB,DB.live] at h
 | arr k es r=>exact ⟨rfl,rfl⟩
 | mp es=>exact ⟨rfl,rfl⟩
def Ctx.ren (X:Ctx) (a b:Nat):Ctx:=⟨X.w,X.S,fun i=>if i=a then X.G b else X.G i,zHb a b X.h⟩
section
variable {X:Ctx} {a b:Nat}
theorem fV {h:aB} (hab:a≠b) {i:Nat} {db:DB} (hd:(zHb a b h)[i]? = some db) (hl:db.live=true):(i=a∧h[b]? = some db∧a<h.length)∨(i≠a∧i≠b∧∃ x,h[i]? = some x∧db=renB a b x):=by
 unfold zHb at hd;rcases bV hd with ⟨rfl,rfl,_⟩|⟨hne,hd⟩
 ·simp [DB.live] at hl
 ·rcases bV hd with ⟨rfl,rfl,hlt⟩|⟨hne2,hd⟩
  ·left;refine ⟨rfl,?_,by simpa [CY] using hlt⟩
   rw [List.getD_eq_getElem?_getD] at hl ⊢;cases hb:h[b]? with
   | none=>rw [hb] at hl;simp [DB.live] at hl
   | some x=>rfl
  ·right;rw [zBE] at hd;obtain ⟨x,h1,h2⟩:=Option.map_eq_some_iff.1 hd;exact ⟨hne2,hne,x,h1,h2.symm⟩
theorem nT.ren (hab:a≠b) {c:KV} {v:Value} (hc:zIX a b c=true) (h:nT X c v):nT (X.ren a b) c v:=by
 cases c <;> simp only [nT] at h ⊢
 case p=>exact h
 case ptr id off =>
  simp only [zIX,Bool.and_eq_true,decide_eq_true_eq] at hc;obtain ⟨h1,h2,h3⟩:=h;refine ⟨by simpa [Ctx.ren,jD] using h1,h2,fun cells hd=>?_⟩
  rcases fV hab hd rfl with ⟨h4,_⟩|⟨_,_,x,h5,h6⟩
  ·exact absurd h4 hc.1
  ·cases x with
   | box cells'=>simp only [Ctx.ren,if_neg hc.1];exact h3 _ h5
   | dead=>simp [renB] at h6
   | mp es=>simp [renB] at h6
   | arr k es r=>simp [renB] at h6
theorem eJ.ren (hab:a≠b):∀ {cs:List KV} {vs:List Value},cs.all (zIX a b)=true→eJ X cs vs→eJ (X.ren a b) cs vs
 | [],[],_,_=>True.intro
 | _::_,_::_,hc,h=>by
  simp only [List.all_cons,Bool.and_eq_true] at hc;exact ⟨h.1.ren hab hc.1,eJ.ren hab hc.2 h.2⟩
 | [],_::_,_,h=>h.elim
 | _::_,[],_,h=>h.elim
theorem bP.ren (hab:a≠b) {kb:Nat} {eb:List (List PV)} (hb:X.h[b]? = some (.arr kb eb false)) (ha:a<X.h.length) {c c':CV} {v:Value} (hc:zBD a b c=some c') (h:bP X c v):bP (X.ren a b) c' v:=by
 cases c <;> simp only [zBD] at hc
 case p=>cases hc;exact h
 case own i off len =>
  split at hc
  ·rename_i hi;subst hi;cases hc;simp only [bP] at h ⊢;obtain ⟨h1,h2,h3⟩:=h;refine ⟨by simpa [Ctx.ren,jD] using ha,h2,fun k es ro hd=>?_⟩
   rcases fV hab hd rfl with ⟨_,h5,_⟩|⟨h4,_⟩
   ·have:=h3 _ _ _ h5;simp only [Ctx.ren,if_true];exact this
   ·exact absurd rfl h4
  ·rename_i hi;split at hc
   ·cases hc
   ·rename_i hia;cases hc;simp only [bP] at h ⊢;obtain ⟨h1,h2,h3⟩:=h;refine ⟨by simpa [Ctx.ren,jD] using h1,h2,fun k es ro hd=>?_⟩
    rcases fV hab hd rfl with ⟨h4,_⟩|⟨_,_,x,h5,h6⟩
    ·exact absurd h4 hia
    ·cases x with
     | arr k' es' r' =>
      simp only [renB] at h6;cases h6;have:=h3 _ _ _ h5;simp only [Ctx.ren,if_neg hia];exact this
     | dead=>simp [renB] at h6
     | mp es=>simp [renB] at h6
     | box cells=>simp only [renB] at h6;split at h6 <;> cases h6
 case ptr i off =>
  split at hc
  ·cases hc
  ·rename_i hia;split at hc
   ·cases hc
   ·rename_i hib;cases hc;simp only [bP] at h ⊢;obtain ⟨h1,h2,h3⟩:=h;refine ⟨by simpa [Ctx.ren,jD] using h1,h2,fun cells hd=>?_⟩
    rcases fV hab hd rfl with ⟨h4,_⟩|⟨_,_,x,h5,h6⟩
    ·exact absurd h4 hia
    ·cases x with
     | box cells'=>simp only [Ctx.ren,if_neg hia];exact h3 _ h5
     | dead=>simp [renB] at h6
     | mp es=>simp [renB] at h6
     | arr k es r=>simp [renB] at h6
 case aptr i x y =>
  split at hc
  ·cases hc
  ·rename_i hia;split at hc
   ·cases hc
   ·rename_i hib;cases hc;simp only [bP] at h ⊢;obtain ⟨h1,h2,h3⟩:=h;refine ⟨by simpa [Ctx.ren,jD] using h1,h2,fun k es ro hd=>?_⟩
    rcases fV hab hd rfl with ⟨h4,_⟩|⟨_,_,q,h5,h6⟩
    ·exact absurd h4 hia
    ·cases q with
     | arr k' es' r' =>
      simp only [renB] at h6;cases h6;simp only [Ctx.ren,if_neg hia];exact h3 _ _ _ h5
     | dead=>simp [renB] at h6
     | mp es=>simp [renB] at h6
     | box cells=>simp only [renB] at h6;split at h6 <;> cases h6
 case bs i n =>
  split at hc
  ·cases hc
  ·rename_i hia;split at hc
   ·cases hc
   ·rename_i hib;cases hc;simp only [bP] at h ⊢;obtain ⟨h1,h2,h3⟩:=h;refine ⟨by simpa [Ctx.ren,jD] using h1,h2,fun cells hd=>?_⟩
    rcases fV hab hd rfl with ⟨h4,_⟩|⟨_,_,x,h5,h6⟩
    ·exact absurd h4 hia
    ·cases x with
     | box cells'=>simp only [Ctx.ren,if_neg hia];exact h3 _ h5
     | dead=>simp [renB] at h6
     | mp es=>simp [renB] at h6
     | arr k es r=>simp [renB] at h6
 case mp i =>
  split at hc
  ·cases hc
  ·rename_i hia;split at hc
   ·cases hc
   ·rename_i hib;cases hc;simp only [bP] at h ⊢;obtain ⟨h1,h2,h3⟩:=h;refine ⟨by simpa [Ctx.ren,jD] using h1,h2,fun es hd=>?_⟩
    rcases fV hab hd rfl with ⟨h4,_⟩|⟨_,_,q,h5,h6⟩
    ·exact absurd h4 hia
    ·cases q with
     | mp es' =>
      simp only [renB] at h6;cases h6;simp only [Ctx.ren,if_neg hia];exact h3 _ h5
     | dead=>simp [renB] at h6
     | arr k es r=>simp [renB] at h6
     | box cells=>simp only [renB] at h6;split at h6 <;> cases h6
 case eptr cs=>cases hc;exact h
 case full k es=>cases hc;exact h
 case clo f cap =>
  split at hc
  ·rename_i hk;cases hc;obtain ⟨vs,h1,h2⟩:=h;exact ⟨vs,h1,h2.ren hab hk⟩
  ·cases hc
theorem aY.ren (hab:a≠b) {kb:Nat} {eb:List (List PV)} (hb:X.h[b]? = some (.arr kb eb false)) (ha:a<X.h.length):∀ {cs cs':List CV} {vs:List Value},rO a b cs=some cs'→aY X cs vs→aY (X.ren a b) cs' vs
 | [],_,[],hc,_=>by simp only [rO] at hc;cases hc;exact True.intro
 | c::cs,cs',v::vs,hc,h=>by
  simp only [rO] at hc;split at hc
  ·rename_i x xs h1 h2;cases hc;exact ⟨h.1.ren hab hb ha h1,aY.ren hab hb ha h2 h.2⟩
  ·cases hc
 | [],_,_::_,_,h=>h.elim
 | _::_,_,[],_,h=>h.elim
theorem aX.ren (hab:a≠b) {kb:Nat} {eb:List (List PV)} (hb:X.h[b]? = some (.arr kb eb false)) (ha:a<X.h.length) {d:DV} {v:Value} (h:aX X d v):aX (X.ren a b) (WC a b d) v:=by
 cases d with
 | jk=>exact True.intro
 | c x =>
  simp only [WC];split
  ·rename_i y hy;exact bP.ren hab hb ha hy h
  ·exact True.intro
 | agg xs =>
  simp only [WC];split
  ·rename_i ys hy;obtain ⟨vs,h1,h2⟩:=h;exact ⟨vs,h1,h2.ren hab hb ha hy⟩
  ·exact True.intro
 | tup es =>
  cases es with
  | nil =>
   obtain ⟨vs,h1,h2⟩:=h;cases vs with
   | nil=>exact ⟨[],h1,True.intro⟩
   | cons _ _=>exact h2.elim
  | cons _ _=>exact True.intro
theorem cI.ren (hab:a≠b) {kb:Nat} {eb:List (List PV)} (hb:X.h[b]? = some (.arr kb eb false)) (ha:a<X.h.length) {bl:Nat}:∀ {cs cs':List CV} {off:Nat},rO a b cs=some cs'→cI X bl off cs→cI (X.ren a b) bl off cs'
 | [],_,_,hc,_=>by simp only [rO] at hc;cases hc;exact True.intro
 | c::cs,cs',off,hc,h=>by
  simp only [rO] at hc;split at hc
  ·rename_i x xs h1 h2;cases hc;obtain ⟨⟨v,h3,h4⟩,h5⟩:=h;exact ⟨⟨v,h3,h4.ren hab hb ha h1⟩,cI.ren hab hb ha h2 h5⟩
  ·cases hc
theorem HO:∀ {cs cs':List CV},rO a b cs=some cs'→cs'.length=cs.length
 | [],_,h=>by simp only [rO] at h;cases h;rfl
 | c::cs,cs',h=>by
  simp only [rO] at h;split at h
  ·rename_i x xs h1 h2;cases h;simp [HO h2]
  ·cases h
theorem HInv.ren (hi:HInv X) (hab:a≠b) {kb:Nat} {eb:List (List PV)} (hb:X.h[b]? = some (.arr kb eb false)) (ha:a<X.h.length):HInv (X.ren a b) where
 slt:=hi.slt
 blk:=fun i db h=>by
  by_cases hl:db.live=true
  ·rcases fV hab h hl with ⟨rfl,h1,_⟩|⟨h1,h2,x,h3,rfl⟩
   ·have:=hi.blk b db h1;rw [hb] at h1;cases h1;simp only [dU,Ctx.ren,if_true] at this ⊢;exact this
   ·have:=hi.blk i x h3;cases x with
    | dead=>simp [renB,DB.live] at hl
    | arr k es r =>
     simp only [renB,dU,Ctx.ren,if_neg h1] at this ⊢;exact this
    | mp es =>
     simp only [renB,dU,Ctx.ren,if_neg h1] at this ⊢;exact this
    | box cells =>
     simp only [renB] at hl ⊢;split
     ·rename_i c hc;simp only [dU] at this ⊢;obtain ⟨g,arr,el,fz,g1,g2,g3,g4,g5⟩:=this;exact ⟨g,arr,el,fz,by simp only [Ctx.ren,if_neg h1];exact g1,g2,by rw [HO hc];exact g3,g4,g5.ren hab hb ha hc⟩
     ·trivial
  ·cases db <;> simp_all [DB.live,dU]
 own:=fun i db g h hl hg=>by
  rcases fV hab h hl with ⟨rfl,h1,_⟩|⟨h1,h2,x,h3,rfl⟩
  ·simp only [Ctx.ren,if_true] at hg;exact hi.own b db g h1 hl hg
  ·simp only [Ctx.ren,if_neg h1] at hg;have hx:=iM hl;rw [hx.2];exact hi.own i x g h3 hx.1 hg
 inj:=fun i d i' d' g g' h hl hf h' hl' hg hg' he=>by
  rcases fV hab h hl with ⟨rfl,h1,_⟩|⟨h1,h2,x,h3,rfl⟩ <;> rcases fV hab h' hl' with ⟨rfl,h1',_⟩|⟨h1',h2',x',h3',rfl⟩
  ·rfl
  ·simp only [Ctx.ren,if_true] at hg;simp only [Ctx.ren,if_neg h1'] at hg';have hx':=iM hl';exact absurd (hi.inj b d i' x' g g' h1 hl hf h3' hx'.1 hg hg' he).symm h2'
  ·simp only [Ctx.ren,if_neg h1] at hg;simp only [Ctx.ren,if_true] at hg';have hx:=iM hl;rw [hx.2] at hf;exact absurd (hi.inj i x b d' g g' h3 hx.1 hf h1' hl' hg hg' he) h2
  ·simp only [Ctx.ren,if_neg h1] at hg;simp only [Ctx.ren,if_neg h1'] at hg';have hx:=iM hl;have hx':=iM hl';rw [hx.2] at hf;exact hi.inj i x i' x' g g' h3 hx.1 hf h3' hx'.1 hg hg' he
theorem bX.renB {d x:DB} (h:bX d x) (hl:(renB a b x).live=true):bX d (renB a b x):=by
 cases x with
 | dead=>simp [Dm.renB,DB.live] at hl
 | arr k es r=>exact h
 | mp es=>exact h
 | box cells =>
  cases d <;> simp only [bX] at h;simp only [Dm.renB] at hl ⊢;split
  ·exact True.intro
  ·rename_i hn;simp [hn,DB.live] at hl
theorem Step.ren {X0:Ctx} (hs:Step X0 X) (hab:a≠b) (h0:X0.h.length≤a) (h1:X0.h.length≤b):Step X0 (X.ren a b) where
 size:=hs.size
 os:=hs.os
 tape:=hs.tape
 output:=hs.output
 kept:=hs.kept
 len:=by simp only [Ctx.ren,jD];exact hs.len
 ids:=fun i db' hlt h hl=>by
  rcases fV hab h hl with ⟨rfl,_⟩|⟨g1,g2,x,g3,rfl⟩
  ·omega
  ·obtain ⟨db,k1,k2,k3,k4⟩:=hs.ids i x hlt g3 (iM hl).1;exact ⟨db,k1,k2.renB hl,by simp only [Ctx.ren,if_neg g1];exact k3,k4⟩
 frame:=hs.frame
 mine:=fun i db g h hl hf hg=>by
  rcases fV hab h hl with ⟨rfl,g1,_⟩|⟨g1,g2,x,g3,rfl⟩
  ·simp only [Ctx.ren,if_true] at hg;exact hs.mine b db g g1 hl hf hg
  ·simp only [Ctx.ren,if_neg g1] at hg;have hx:=iM hl;rw [hx.2] at hf;exact hs.mine i x g g3 hx.1 hf hg
 upper:=hs.upper
end
def DS.ren (s:DS) (a b:Nat):DS:=⟨s.n,zBF a b s.t,zHb a b s.h⟩
def DY (n0:Nat) (s s':DS):Prop:=DX n0 s s'∨∃ a b kb eb,a≠b∧n0≤a∧n0≤b∧a<s.h.length∧s.h[b]? = some (.arr kb eb false)∧DX n0 (s.ren a b) s'
theorem DY.use {n0:Nat} {s s':DS} (h:DY n0 s s') {X0 X:Ctx} {a:Act} (hn:X0.h.length=n0) (hh:X.h=s.h) (hi:HInv X) (hs:Step X0 X) (ht:TInv X s a):∃ X',X'.w=X.w∧X'.h=s'.h∧HInv X'∧Step X0 X'∧TInv X' s' a:=by
 rcases h with h|⟨p,q,kb,eb,hab,h0,h1,hp,hq,h⟩
 ·exact h.use hn hh hi hs ht
 ·rw [← hh] at hp hq;refine h.use (X:=X.ren p q) hn ?_ (hi.ren hab hq hp) (hs.ren hab (by omega) (by omega)) ⟨ht.size,fun i=>?_,ht.defs⟩
  ·simp only [Ctx.ren,DS.ren,hh]
  ·simp only [DS.ren];rw [PN];exact (ht.rel i).ren hab hq hp
section
variable {P:Program} {T:Tab} {X0:Ctx} {c:Code} {Q:Exit→DS→Prop}
def sN {α:Type} (n0:Nat) (I:α→DS) (J:α→Prop) (μ:α→Nat) (x:α) (Q:Exit→DS→Prop):Exit→DS→Prop:=fun e s'=>match e with
 | .normal=>∃ y,J y∧μ y < μ x∧DY n0 s' (I y)
 | e=>Q e s'
theorem bQ (hT:bG P T) (hm:P.follows .mixedOrders=true) {α:Type} (I:α→DS) (J:α→Prop) (μ:α→Nat) (x0:α) {s:DS} (hJ:J x0) (hw:DY X0.h.length s (I x0))
  (h:∀ x,J x→vc P T X0 c (I x) (sN X0.h.length I J μ x Q)):SWP P X0 (.loop c) s Q:=by
 intro gd X a hh hi hs ht;obtain ⟨X',h1,h2,h3,h4,h5⟩:=hw.use rfl hh hi hs ht;rw [← h1];refine wp_loop_ghost (fun n a w=>∃ x X,μ x=n∧J x∧X.w=w∧X.h=(I x).h∧HInv X∧Step X0 X∧TInv X (I x) a) (μ x0) ⟨x0,X',rfl,hJ,rfl,h2,h3,h4,h5⟩ ?_;rintro n a' w' ⟨x,Y,rfl,k1,rfl,k2,k3,k4,k5⟩;refine wp_mono (dK hT hm c (h x k1) gd Y a' k2 k3 k4 k5) fun e a w hp=>?_;obtain ⟨s',Z,p1,rfl,p3,p4,p5,p6⟩:=hp;cases e <;> simp only [Exit.then,sN] at p1 ⊢
 case normal =>
  obtain ⟨y,q1,q2,q3⟩:=p1;obtain ⟨Z',r1,r2,r3,r4,r5⟩:=q3.use rfl p3 p4 p5 p6;exact ⟨μ y,q2,y,Z',rfl,q1,r1,r2,r3,r4,r5⟩
 all_goals exact ⟨s',Z,p1,rfl,p3,p4,p5,p6⟩
theorem qr_e {α:Type} {n0:Nat} {I:α→DS} {J:α→Prop} {μ:α→Nat} {x:α} {id:Nat} {s:DS}:sN n0 I J μ x Q (.exit id) s=Q (.exit id) s:=nr rfl
theorem qr_r {α:Type} {n0:Nat} {I:α→DS} {J:α→Prop} {μ:α→Nat} {x:α} {s:DS}:sN n0 I J μ x Q .ret s=Q .ret s:=nr rfl
theorem jC {α:Type} {n0:Nat} {I:α→DS} {J:α→Prop} {μ:α→Nat} {x:α} {s:DS} (y:α) (h1:J y) (h2:μ y < μ x) (h3:DX n0 s (I y)):sN n0 I J μ x Q .normal s:=⟨y,h1,h2,.inl h3⟩
theorem zK {α:Type} {n0:Nat} {I:α→DS} {J:α→Prop} {μ:α→Nat} {x:α} {s:DS} (y:α) (a b:Nat) {kb:Nat} {eb:List (List PV)} (h1:J y) (h2:μ y < μ x) (hc:(!(Nat.beq a b) && Nat.ble n0 a && Nat.ble n0 b && Nat.blt a s.h.length)=true)
  (hb:s.h[b]? = some (.arr kb eb false)) (h3:DX n0 (s.ren a b) (I y)):sN n0 I J μ x Q .normal s:=by
 simp only [Bool.and_eq_true,Bool.not_eq_true'] at hc;refine ⟨y,h1,h2,.inr ⟨a,b,kb,eb,fun e=>?_,Nat.le_of_ble_eq_true hc.1.1.2,Nat.le_of_ble_eq_true hc.1.2,Nat.blt_eq.mp hc.2,hb,h3⟩⟩;have:=hc.1.1.1;subst e;rw [Nat.beq_refl] at this;cases this
end
theorem VO (n:Nat):((n:Int)+1).toNat=n+1:=by omega
attribute [go_sem] VO
attribute [go_sem] qr_e qr_r DS.ren zBF WC zBD rO renB zFG zHb zIX
end Go.Dm
end
end
