/- Part 4 of the proof of roomAsks_card, set without needless blanks. No condition. -/
import Derived.Test.YtlbfnbldeefgmaaGreatDoorA02
import Derived.LoopN
set_option linter.all false
section
section
namespace Go.Dm
open Go
def vc (P:Program) (T:Tab) (X0:Ctx):Code→DS→(Exit→DS→Prop)→Prop
 | .skip,s,Q=>Q .normal s
 | .ret,s,Q=>Q .ret s
 | .exit id,s,Q=>Q (.exit id) s
 | .seq x y,s,Q=>vc P T X0 x s fun e s'=>match e with
  | .normal=>vc P T X0 y s' Q
  | e=>Q e s'
 | .block id c,s,Q=>vc P T X0 c s (kZ id Q)
 | .cond c x y,s,Q=>match evD s.t c with
  | .c (.p (.b t))=>(t=true→vc P T X0 x s Q)∧(t=false→vc P T X0 y s Q)
  | _=>False
 | .region _ ops false,s,Q=>hZ P T ops ops.toList s (Q .normal)
 | c,s,Q=>SWP P X0 c s Q
theorem dG {P:Program} {T:Tab} {X0:Ctx} (hT:bD P T) (hm:P.follows .mixedOrders=true):∀ (c:Code) {s:DS} {Q:Exit→DS→Prop},vc P T X0 c s Q→SWP P X0 c s Q
 | .skip,s,Q,h=>zHF h
 | .ret,s,Q,h=>zKn h
 | .exit id,s,Q,h=>zHC h
 | .seq x y,s,Q,h=>zZ (eY (dG hT hm x h) fun e s' hq=>by
   cases e <;> simp only at hq ⊢
   case normal=>exact dG hT hm y hq
   all_goals exact hq)
 | .block id c,s,Q,h=>NT (eY (dG hT hm c h) fun e s' hq=>by
   cases e <;> simp only [kZ] at hq ⊢ <;> exact hq)
 | .cond c x y,s,Q,h=>by
   simp only [vc] at h;split at h
   ·rename_i t ht;exact zHB ht (fun e=>dG hT hm x (h.1 e)) (fun e=>dG hT hm y (h.2 e))
   ·exact h.elim
 | .region id ops false,s,Q,h=>zAG hT h
 | .region id ops true,s,Q,h=>h
 | .loop c,s,Q,h=>h
 | .rangeFunc _ _ _ _,s,Q,h=>h
 | .scope _,s,Q,h=>h
 | .label _,s,Q,h=>h
 | .goto _,s,Q,h=>h
 | .refuse _,s,Q,h=>h
def zH7 (n:Nat) (h:aC) (d:DV) (R:DV→aC→Prop):Prop :=
 match zEn h d with
 | some d'=>((tK h (zJ3 d)).take n).all (bN n)=true∧R d' ((tK h (zJ3 d)).take n)
 | none=>False
theorem zH7.fin {n:Nat} {h:aC} {d:DV} {R:DV→aC→Prop} (hf:zH7 n h d R):Fin n h d R:=by
 unfold zH7 at hf;split at hf
 ·rename_i d' hd;exact .inr (.inl ⟨d',hd,hf.1,hf.2⟩)
 ·exact hf.elim
def zAR (T:Tab) (n:Nat) (t:Fr) (h:aC) (R:DV→aC→Prop):List ResultVar→List EV→Prop
 | [],es=>zH7 n h (ES es.reverse) R
 | .tmp i::rs,es =>
  match look t i with
  | .c x=>zAR T n t h R rs (.c x::es)
  | .agg xs=>zAR T n t h R rs (.agg xs::es)
  | _=>False
 | .cell a ty::rs,es=>(T ty).size≠0∧tC (T ty) h (look t a) fun d =>
  match d with
  | .c x=>zAR T n t h R rs (.c x::es)
  | .agg xs=>zAR T n t h R rs (.agg xs::es)
  | _=>False
def zAQ (T:Tab) (n:Nat) (rs:List ResultVar) (R:DV→aC→Prop):Exit→DS→Prop
 | .normal,s=>zAR T n s.t s.h R rs []
 | .ret,s=>zAR T n s.t s.h R rs []
 | _,_=>False
theorem BM {T:TI} {h:aC} {a:DV} {K K':DV→Prop} (hk:∀ d,K d→K' d) (hd:tC T h a K):tC T h a K':=by
 unfold tC at hd ⊢;revert hd;split
 ·split
  ·split
   ·exact fun h=>⟨h.1,hk _ h.2⟩
   ·split
    ·exact fun h=>hk _ h
    ·exact fun h=>h
  ·exact fun h=>h
 ·split
  ·split
   ·exact fun h=>⟨h.1,h.2.1,hk _ h.2.2⟩
   ·exact fun h=>⟨h.1,h.2.1,hk _ h.2.2⟩
  ·exact fun h=>h
 ·split
  ·exact fun h=>⟨h.1,hk _ h.2⟩
  ·split
   ·exact fun h=>hk _ h
   ·exact fun h=>h
 ·exact fun h=>h
theorem lF {T:Tab} {n:Nat} {s:DS} {R:DV→aC→Prop}:∀ (rs:List ResultVar) (es:List EV) {K:List EV→Prop},(∀ l,zH7 n s.h (ES (es.reverse++l)) R→K l)→zAR T n s.t s.h R rs es→lI T s rs K
 | [],es,K,hk,h=>hk [] (by simpa [zAR] using h)
 | .tmp i::rs,es,K,hk,h=>by
  simp only [zAR,lI] at h ⊢;generalize look s.t i=d at h ⊢;cases d <;> simp only at h ⊢
  ·exact lF rs _ (fun l hl=>hk _ (by simpa using hl)) h
  ·exact lF rs _ (fun l hl=>hk _ (by simpa using hl)) h
 | .cell a ty::rs,es,K,hk,h=>by
  simp only [zAR,lI] at h ⊢;refine ⟨h.1,BM (fun d hd=>?_) h.2⟩;cases d <;> simp only at hd ⊢
  ·exact lF rs _ (fun l hl=>hk _ (by simpa using hl)) hd
  ·exact lF rs _ (fun l hl=>hk _ (by simpa using hl)) hd
theorem AH {T:Tab} {n:Nat} {rs:List ResultVar} {R:DV→aC→Prop} {e:Exit} {s:DS} (h:zAQ T n rs R e s):dpost T n rs R e s:=by
 cases e <;> simp only [zAQ,dpost] at h ⊢
 case normal=>exact lF rs [] (fun l hl=>zH7.fin (by simpa using hl)) h
 case ret=>exact lF rs [] (fun l hl=>zH7.fin (by simpa using hl)) h
def iP:Nat→List DV→Fr
 | _,[]=>[]
 | i,d::l=>(i,d)::iP (i+1) l
theorem eJ:∀ (l:List DV) (i:Nat),(l.zipIdx i).map (fun p=>(p.2,p.1))=iP i l
 | [],_=>rfl
 | d::l,i=>by simp only [List.zipIdx_cons,List.map_cons,iP,eJ l]
theorem ent {P:Program} {T:Tab} (hT:bD P T) (hm:P.follows .mixedOrders=true) {f:FuncId} {fn:Func} {c:Code} {args:List DV} {h:aC} {R:DV→aC→Prop} (hf:P.funcs[f]? = some fn) (hb:fn.body=some c)
  (hc:(Nat.ble args.length fn.ntmps && !(fn.name == "runtime.NumGoroutine"))=true)
  (hs:∀ X0:Ctx,X0.h=h→vc P T X0 c ⟨fn.ntmps,iP 0 args,h⟩ (zAQ T h.length fn.results.toList R)):aA P f args h R:=by
 simp only [Bool.and_eq_true,Bool.not_eq_true'] at hc;refine dW hT hf hb (Nat.le_of_ble_eq_true hc.1) hc.2 fun X0 hX=>?_;rw [eJ];exact eY (dG hT hm c (hs X0 hX)) fun e s=>AH
end Go.Dm
end
section
namespace Go.Dm
open Go
section
variable {P:Program} {T:Tab} {X0:Ctx}
inductive Later (p:Prop):Prop where
 | mk (h:p):Later p
theorem rJ (p:Prop):Later p=p:=propext ⟨fun ⟨h⟩=>h,.mk⟩
theorem nr {α:Sort _} {a b:α} (h:a=b):a=b:=h
def vsq (P:Program) (T:Tab) (X0:Ctx) (y:Code) (Q:Exit→DS→Prop):Exit→DS→Prop:=fun e s'=>match e with
 | .normal=>Later (vc P T X0 y s' Q)
 | e=>Q e s'
def zAP (P:Program) (T:Tab) (X0:Ctx) (d:DV) (x y:Code) (s:DS) (Q:Exit→DS→Prop):Prop :=
 match d with
 | .c (.p (.b t))=>(t=true→vc P T X0 x s Q)∧(t=false→vc P T X0 y s Q)
 | _=>False
def zLC (P:Program) (T:Tab) (ops:Array Oper) (rest:List Oper) (n:Nat) (t:Fr) (dst:Option Tmp) (K:DS→Prop):DV→aC→Prop:=fun d h'=>Later (hZ P T ops rest (DS.put ⟨n,t,h'⟩ dst d h') K)
theorem FQ {P:Program} {T:Tab} {ops:Array Oper} {rest:List Oper} {n:Nat} {t:Fr} {dst:Option Tmp} {K:DS→Prop}:zLC P T ops rest n t dst K=fun d h'=>hZ P T ops rest (DS.put ⟨n,t,h'⟩ dst d h') K:=by
 funext d h';exact rJ _
def kP (K:DV→aC→Prop) (h:aC):PV→Prop:=fun x=>K (.c (.p x)) h
def kD (K:DV→aC→Prop) (h:aC):DV→Prop:=fun d=>K d h
def kB (K:PV→Prop):Bool→Prop:=fun b=>K (.b b)
def kN (K:PV→Prop):Bool→Prop:=fun b=>K (.b (!b))
def kU (K:DV→aC→Prop):aC→Prop:=fun h=>K (.tup []) h
def ZF (t:Fr):List Oper→Nat→Option DV
 | [],_=>none
 | o::_,0=>o.dst.map fun i=>look t i
 | _::l,j+1=>ZF t l j
def lE (P:Program) (T:Tab) (ops:Array Oper) (g:Option DV) (b:Bool) (op:Op) (t:Fr) (h:aC) (K:DV→aC→Prop):Prop :=
 match g with
 | some (.c (.p (.b v)))=>(v=b→dop P T op t h K)∧(v≠b→K (.tup []) h)
 | some (.tup [])=>K (.tup []) h
 | _=>False
def TE (d:DV) (a b:DV) (h:aC) (K:DV→aC→Prop):Prop :=
 match d with
 | .c (.p (.b v))=>(v=true→K a h)∧(v=false→K b h)
 | _=>False
theorem zKB {s:DS} {Q:Exit→DS→Prop}:vc P T X0 .skip s Q=Q .normal s:=nr rfl
theorem zMi {s:DS} {Q:Exit→DS→Prop}:vc P T X0 .ret s Q=Q .ret s:=nr rfl
theorem zKz {id:Nat} {s:DS} {Q:Exit→DS→Prop}:vc P T X0 (.exit id) s Q=Q (.exit id) s:=nr rfl
theorem zMj {x y:Code} {s:DS} {Q:Exit→DS→Prop}:vc P T X0 (.seq x y) s Q=vc P T X0 x s (vsq P T X0 y Q):=by
 have e:vsq P T X0 y Q=fun e s'=>match e with
   | .normal=>vc P T X0 y s' Q
   | e=>Q e s':=by
  funext e s'
  cases e <;> first|rfl|exact rJ _
 rw [e];rfl
theorem zHN {id:Nat} {c:Code} {s:DS} {Q:Exit→DS→Prop}:vc P T X0 (.block id c) s Q=vc P T X0 c s (kZ id Q):=nr rfl
theorem zKy {c:Operand} {x y:Code} {s:DS} {Q:Exit→DS→Prop}:vc P T X0 (.cond c x y) s Q=zAP P T X0 (evD s.t c) x y s Q:=nr rfl
theorem zEV {id:Nat} {l:List Oper} {s:DS} {Q:Exit→DS→Prop}:vc P T X0 (.region id l.toArray false) s Q=hZ P T l.toArray l s (Q .normal):=nr rfl
theorem zKA {c:Code} {s:DS} {Q:Exit→DS→Prop}:vc P T X0 (.loop c) s Q=SWP P X0 (.loop c) s Q:=nr rfl
theorem zNz {y:Code} {s:DS} {Q:Exit→DS→Prop}:vsq P T X0 y Q .normal s=vc P T X0 y s Q:=rJ _
theorem zNA {y:Code} {s:DS} {Q:Exit→DS→Prop}:vsq P T X0 y Q .ret s=Q .ret s:=nr rfl
theorem zNy {y:Code} {id:Nat} {s:DS} {Q:Exit→DS→Prop}:vsq P T X0 y Q (.exit id) s=Q (.exit id) s:=nr rfl
theorem qb_n {id:Nat} {s:DS} {Q:Exit→DS→Prop}:kZ id Q .normal s=Q .normal s:=nr rfl
theorem qb_r {id:Nat} {s:DS} {Q:Exit→DS→Prop}:kZ id Q .ret s=Q .ret s:=nr rfl
theorem qb_e {id id':Nat} {s:DS} {Q:Exit→DS→Prop}:kZ id Q (.exit id') s=if id'=id then Q .normal s else Q (.exit id') s:=nr rfl
theorem ql_e {α:Type} {n0:Nat} {I:α→DS} {J:α→Prop} {μ:α→Nat} {x:α} {id:Nat} {s:DS} {Q:Exit→DS→Prop}:zLX n0 I J μ x Q (.exit id) s=Q (.exit id) s:=nr rfl
theorem ql_r {α:Type} {n0:Nat} {I:α→DS} {J:α→Prop} {μ:α→Nat} {x:α} {s:DS} {Q:Exit→DS→Prop}:zLX n0 I J μ x Q .ret s=Q .ret s:=nr rfl
theorem zKG {n:Nat} {rs:List ResultVar} {R:DV→aC→Prop} {s:DS}:zAQ T n rs R .normal s=zAR T n s.t s.h R rs []:=nr rfl
theorem zKH {n:Nat} {rs:List ResultVar} {R:DV→aC→Prop} {s:DS}:zAQ T n rs R .ret s=zAR T n s.t s.h R rs []:=nr rfl
theorem zKE {x y:Code} {s:DS} {Q:Exit→DS→Prop}:zAP P T X0 (.c (.p (.b true))) x y s Q=vc P T X0 x s Q:=by simp [zAP]
theorem zKD {x y:Code} {s:DS} {Q:Exit→DS→Prop}:zAP P T X0 (.c (.p (.b false))) x y s Q=vc P T X0 y s Q:=by simp [zAP]
theorem aO {t:Bool} {x y:Code} {s:DS} {Q:Exit→DS→Prop} (h1:t=true→vc P T X0 x s Q) (h2:t=false→vc P T X0 y s Q):zAP P T X0 (.c (.p (.b t))) x y s Q:=⟨h1,h2⟩
theorem zMn {ops:Array Oper} {s:DS} {K:DS→Prop}:hZ P T ops [] s K=K s:=nr rfl
theorem zMo {ops:Array Oper} {dst:Option Tmp} {op:Op} {ty:TypeId} {pos:String} {after:Array Edge} {rest:List Oper} {n:Nat} {t:Fr} {h:aC} {K:DS→Prop}:
  hZ P T ops ({ dst:=dst,op:=op,type:=ty,pos:=pos,after:=after,guard:=none }::rest) ⟨n,t,h⟩ K=dop P T op t h (zLC P T ops rest n t dst K):=by rw [FQ];rfl
theorem zHP {l:List Oper} {dst:Option Tmp} {op:Op} {ty:TypeId} {pos:String} {after:Array Edge} {rest:List Oper} {j:Nat} {b:Bool} {n:Nat} {t:Fr} {h:aC} {K:DS→Prop}:
  hZ P T l.toArray ({ dst:=dst,op:=op,type:=ty,pos:=pos,after:=after,guard:=some (j,b) }::rest) ⟨n,t,h⟩ K=lE P T l.toArray (ZF t l j) b op t h (zLC P T l.toArray rest n t dst K):=by
 have e:∀ (l:List Oper) (j:Nat),((l[j]?).bind (·.dst)).map (fun i=>look t i)=ZF t l j:=by
  intro l
  induction l with
  | nil=>intro j;rfl
  | cons o l ih=>intro j;cases j with
   | zero=>rfl
   | succ j=>exact ih j
 rw [FQ];simp only [hZ,List.getElem?_toArray,e];rfl
theorem zJy {t:Fr} {o:Oper} {l:List Oper}:ZF t (o::l) 0=o.dst.map fun i=>look t i:=nr rfl
theorem zJx {t:Fr} {o:Oper} {l:List Oper} {j:Nat}:ZF t (o::l) (j+1)=ZF t l j:=nr rfl
theorem zDi {ops:Array Oper} {rest:List Oper} {n:Nat} {t:Fr} {i:Nat} {K:DS→Prop} {d:DV} {h:aC} (hi:i<n):zLC P T ops rest n t (some i) K d h=hZ P T ops rest ⟨n,(i,d)::t,h⟩ K:=by
 rw [FQ];simp only [DS.put];rw [if_pos hi]
theorem zDh {ops:Array Oper} {rest:List Oper} {n:Nat} {t:Fr} {K:DS→Prop} {d:DV} {h:aC}:zLC P T ops rest n t none K d h=hZ P T ops rest ⟨n,t,h⟩ K:=by rw [FQ];rfl
theorem zM1 {K:DV→aC→Prop} {h:aC} {x:PV}:kP K h x=K (.c (.p x)) h:=nr rfl
theorem zMZ {K:DV→aC→Prop} {h:aC} {d:DV}:kD K h d=K d h:=nr rfl
theorem zMY {K:PV→Prop} {b:Bool}:kB K b=K (.b b):=nr rfl
theorem zM0 {K:PV→Prop} {b:Bool}:kN K b=K (.b (!b)):=nr rfl
theorem zM2 {K:DV→aC→Prop} {h:aC}:kU K h=K (.tup []) h:=nr rfl
section g
variable {ops:Array Oper} {op:Op} {t:Fr} {h:aC} {K:DV→aC→Prop}
theorem zNw:lE P T ops (some (.c (.p (.b true)))) true op t h K=dop P T op t h K:=by simp [lE]
theorem zNt:lE P T ops (some (.c (.p (.b false)))) false op t h K=dop P T op t h K:=by simp [lE]
theorem zNv:lE P T ops (some (.c (.p (.b true)))) false op t h K=K (.tup []) h:=by simp [lE]
theorem zNu:lE P T ops (some (.c (.p (.b false)))) true op t h K=K (.tup []) h:=by simp [lE]
theorem zMl {b:Bool}:lE P T ops (some (.tup [])) b op t h K=K (.tup []) h:=nr rfl
theorem bF {v b:Bool} (h1:v=true→lE P T ops (some (.c (.p (.b v)))) b op t h K) (h2:v=false→lE P T ops (some (.c (.p (.b v)))) b op t h K):lE P T ops (some (.c (.p (.b v)))) b op t h K:=by
 cases v
 ·exact h2 rfl
 ·exact h1 rfl
theorem vp_t {a b:DV}:TE (.c (.p (.b true))) a b h K=K a h:=by simp [TE]
theorem vp_f {a b:DV}:TE (.c (.p (.b false))) a b h K=K b h:=by simp [TE]
theorem vp_b {v x y:Bool}:TE (.c (.p (.b v))) (.c (.p (.b x))) (.c (.p (.b y))) h K=K (.c (.p (.b (bif v then x else y)))) h:=by cases v <;> simp [TE]
theorem zI7 {x:Operand}:dop P T (.move x) t h K=K (evD t x) h:=nr rfl
theorem zBS {x:Operand}:dop P T (.assign x) t h K=K (evD t x) h:=nr rfl
theorem zI9 {c a b:Operand}:dop P T (.pick c a b) t h K=TE (evD t c) (evD t a) (evD t b) h K:=nr rfl
def zEW (k:TK) (z:List PV) (h:aC) (K:DV→aC→Prop):Prop :=
 match k with
 | .no=>False
 | _=>K (.c (.ptr h.length 0)) (h++[.box (z.map .p)])
theorem zFD {ty:TypeId}:dop P T (.alloc ty) t h K=zEW (T ty).k (T ty).zero h K:=nr rfl
def zNK (o:Option (List CV)) (h:aC) (K:DV→aC→Prop):Prop :=
 match o with
 | some ys=>K (.c (.ptr h.length 0)) (h++[.box ys])
 | none=>False
theorem zLd {ty:TypeId} {x:Operand}:dop P T (.box ty x) t h K=zNK (cellsD (evD t x)) h K:=nr rfl
def zKQ (t:Fr):List (Nat × Operand)→List (Nat × DV)
 | []=>[]
 | p::l=>(p.1,evD t p.2)::zKQ t l
theorem QP (t:Fr):∀ l:List (Nat × Operand),(l.map fun p=>(p.1,evD t p.2))=zKQ t l
 | []=>rfl
 | p::l=>by simp only [List.map_cons,zKQ,QP t l]
def evL (t:Fr):List Operand→List DV
 | []=>[]
 | x::l=>evD t x::evL t l
theorem KI (t:Fr):∀ l:List Operand,l.map (evD t)=evL t l
 | []=>rfl
 | x::l=>by simp only [List.map_cons,evL,KI t l]
def zEU (T:Tab) (k:TK) (z:List PV) (parts:List (Nat × DV)) (h:aC) (K:DV→aC→Prop):Prop :=
 match k with
 | .struct fs=>(∀ f∈fs,(T f.1).size≠0) ∧
  match vM T (fun i=>(fs[i]?).map fun f=>(f.2,(T f.1).size)) (z.map .p) parts with
  | some cells=>K (.agg cells) h
  | none=>False
 | .array _ e=>(T e).size≠0 ∧
  match vM T (fun i=>some (i*(T e).size,(T e).size)) (z.map .p) parts with
  | some cells=>K (.agg cells) h
  | none=>False
 | _=>False
theorem zFE {ty:TypeId} {l:List (Nat × Operand)}:dop P T (.build ty l.toArray) t h K=zEU T (T ty).k (T ty).zero (zKQ t l) h K:=by
 rw [← QP];rfl
def NY (T:Tab) (place:List (Nat × Nat)):List CV→List (Nat × DV)→Option (List CV)
 | cells,[]=>some cells
 | cells,(i,d)::rest =>
  match place[i]?,cellsD d with
  | some (ft,off),some ys=>if ys.length=(T ft).size∧off+(T ft).size≤cells.length then NY T place (splice cells off ys) rest else none
  | _,_=>none
theorem NZ (T:Tab) (fs:List (Nat × Nat)):∀ (parts:List (Nat × DV)) (cells:List CV),vM T (fun i=>(fs[i]?).map fun f=>(f.2,(T f.1).size)) cells parts=NY T fs cells parts
 | [],_=>rfl
 | (i,d)::rest,cells=>by
  simp only [vM,NY];cases fs[i]? with
  | none=>rfl
  | some f =>
   cases cellsD d with
   | none=>rfl
   | some ys=>simp only [Option.map_some];rw [NZ T fs rest _]
def NW (sz:Nat):List CV→List (Nat × DV)→Option (List CV)
 | cells,[]=>some cells
 | cells,(i,d)::rest =>
  match cellsD d with
  | some ys=>if ys.length=sz∧i*sz+sz≤cells.length then NW sz (splice cells (i*sz) ys) rest else none
  | _=>none
theorem NX (T:Tab) (sz:Nat):∀ (parts:List (Nat × DV)) (cells:List CV),vM T (fun i=>some (i*sz,sz)) cells parts=NW sz cells parts
 | [],_=>rfl
 | (i,d)::rest,cells=>by
  simp only [vM,NW];cases cellsD d with
  | none=>rfl
  | some ys=>simp only;rw [NX T sz rest _]
def zNx (o:Option (List CV)) (h:aC) (K:DV→aC→Prop):Prop :=
 match o with
 | some cells=>K (.agg cells) h
 | none=>False
theorem zEX {cells:List CV}:zNx (some cells) h K=K (.agg cells) h:=nr rfl
theorem zES {fs:List (Nat × Nat)} {z:List PV} {parts:List (Nat × DV)}:zEU T (.struct fs) z parts h K=((∀ f∈fs,(T f.1).size≠0)∧zNx (NY T fs (z.map .p) parts) h K):=by
 rw [← NZ];rfl
theorem zHM {n e:Nat} {z:List PV} {parts:List (Nat × DV)}:zEU T (.array n e) z parts h K=((T e).size≠0∧zNx (NW (T e).size (z.map .p) parts) h K):=by
 rw [← NX T];rfl
theorem zBT {ty:TypeId} {len:Nat} {l:List (Nat × Operand)}:dop P T (.buildSlice ty len l.toArray) t h K=xH T ty len (zKQ t l) h K:=by
 rw [← QP];rfl
theorem zI5 {ty:TypeId} {a:Operand}:dop P T (.load ty a) t h K=((T ty).size≠0∧tC (T ty) h (evD t a) (kD K h)):=nr rfl
theorem zFI {ty:TypeId} {m x:Operand} {ok:Bool}:dop P T (.lookup ty m x ok) t h K=zBI T (T ty).k h (evD t m) (evD t x) ok (kD K h):=nr rfl
theorem zJa {ty:TypeId} {m x v:Operand}:dop P T (.mapUpdate ty m x v) t h K=zBN T (T ty).k h (evD t m) (evD t x) (evD t v) (kU K):=nr rfl
theorem zFJ {ty:TypeId}:dop P T (.makeMap ty none) t h K=JT (T ty).k h K:=nr rfl
theorem zFL {ty:TypeId} {a x:Operand}:dop P T (.store ty a x) t h K=JZ (T ty) h (evD t a) (evD t x) (kU K):=nr rfl
def zMm (d:DV) (h:aC) (K:DV→aC→Prop):Prop :=
 match d with
 | .c (.ptr id off) =>
  match h[id]? with
  | some (.box _)=>K (.c (.ptr id off)) h
  | _=>False
 | .c (.eptr cs)=>K (.c (.eptr cs)) h
 | .c (.clo f cap)=>K (.c (.clo f cap)) h
 | _=>False
theorem zI8 {x:Operand}:dop P T (.nilCheck x) t h K=zMm (evD t x) h K:=nr rfl
def zET (P:Program) (ty:TypeId) (k:TI) (h:aC) (o:BinOp) (x y:DV) (K:DV→aC→Prop):Prop :=
 match zLV o x y with
 | some (id,b)=>zKU k.k (h[id]?) b h K
 | none=>JI o k x y (kP K h)∨zK4 P o ty x y (kP K h)
theorem zLc {o:BinOp} {ty ty':TypeId} {x y:Operand}:dop P T (.binOp o ty x y ty') t h K=zET P ty (T ty) h o (evD t x) (evD t y) K:=nr rfl
theorem zIb {o:BinOp} {ty:TypeId} {x:CV} {y:DV} {K:PV→Prop}:zK4 P o ty (.c x) y K=False:=by
 refine eq_false ?_;rintro ⟨xs,ys,b,h,_⟩;cases h
theorem XF {ty:TypeId} {k:TI} {h:aC} {o:BinOp} {xs ys:List CV} (ps qs:List PV) (b:Bool) {K:DV→aC→Prop} (e1:xs=ps.map .p) (e2:ys=qs.map .p) (f1:ps.all (fun x=>(gM x).isSome)=true) (f2:qs.all (fun x=>(gM x).isSome)=true) (hE:zFg P ty ps qs b) (hK:(o=.eql∧K (.c (.p (.b b))) h)∨(o=.neq∧K (.c (.p (.b (!b)))) h)):zET P ty k h o (.agg xs) (.agg ys) K:=by
 subst e1 e2;have:zLV o (.agg (ps.map .p)) (.agg (qs.map .p))=none:=by cases o <;> rfl
 unfold zET;rw [this];exact .inr ⟨ps,qs,b,rfl,rfl,f1,f2,hE,hK⟩
theorem zMg {ty:TypeId} {k:TI} {h:aC} {o:BinOp} {x y:PV} {K:DV→aC→Prop}:zET P ty k h o (.c (.p x)) (.c (.p y)) K=JI o k (.c (.p x)) (.c (.p y)) (kP K h):=by
 have e:zET P ty k h o (.c (.p x)) (.c (.p y)) K=(JI o k (.c (.p x)) (.c (.p y)) (kP K h)∨zK4 P o ty (.c (.p x)) (.c (.p y)) (kP K h)):=by cases o <;> exact nr rfl
 rw [e,zIb,or_false]
theorem zMf {ty:TypeId} {k:TI} {h:aC} {o:BinOp} {id off len:Nat} {y:PV} {K:DV→aC→Prop}:zET P ty k h o (.c (.own id off len)) (.c (.p y)) K=JI o k (.c (.own id off len)) (.c (.p y)) (kP K h):=by
 have e:zET P ty k h o (.c (.own id off len)) (.c (.p y)) K=(JI o k (.c (.own id off len)) (.c (.p y)) (kP K h)∨zK4 P o ty (.c (.own id off len)) (.c (.p y)) (kP K h)):=by cases o <;> exact nr rfl
 rw [e,zIb,or_false]
theorem zMe {ty:TypeId} {k:TI} {h:aC} {id off:Nat} {K:DV→aC→Prop}:zET P ty k h .eql (.c (.ptr id off)) (.c (.p (.o (.pointer none)))) K=zKU k.k (h[id]?) false h K:=nr rfl
theorem zMh {ty:TypeId} {k:TI} {h:aC} {id off:Nat} {K:DV→aC→Prop}:zET P ty k h .neq (.c (.ptr id off)) (.c (.p (.o (.pointer none)))) K=zKU k.k (h[id]?) true h K:=nr rfl
theorem zMp {e:Nat} {c:List CV} {b:Bool} {h:aC} {K:DV→aC→Prop}:zKU (.ptr e) (some (.box c)) b h K=K (.c (.p (.b b))) h:=nr rfl
theorem zHs {j a b id:Nat}:WX (.c (.own j a b)) id=(j == id):=nr rfl
theorem zHt {x:PV} {id:Nat}:WX (.c (.p x)) id=false:=nr rfl
attribute [go_sem] zMg zMf zMe zMh zMp zHs zHt
theorem zMM {o:UnOp} {ty:TypeId} {x:Operand}:dop P T (.unOp o ty x) t h K=dun o (evD t x) (kP K h):=nr rfl
theorem zI2 {src dst:TypeId} {x:Operand}:dop P T (.convert src dst x) t h K=zBx T src dst (evD t x) h K:=nr rfl
def EJ (t:Fr) (o:Option Operand) (d:Int):Option Int :=
 match o with
 | none=>some d
 | some x=>match evD t x with
  | .c (.p (.i _ n))=>some n
  | _=>none
def zE2 (T:Tab) (k:TK) (h:aC) (x:DV) (lo hi:Int→Option Int) (K:DV→aC→Prop):Prop :=
 match k,x with
 | .str,.c (.p (.s l))=>match lo 0,hi l.length with
  | some a,some b=>0≤a∧a≤b∧b≤l.length∧K (.c (.p (.s ((l.take b.toNat).drop a.toNat)))) h
  | _,_=>False
 | .slice e,.c (.p (.sl k es))=>match lo 0,hi es.length with
  | some a,some b=>(T e).size≠0∧(T e).size=k∧0≤a∧a≤b∧b≤es.length∧K (.c (.p (.sl k ((es.take b.toNat).drop a.toNat)))) h
  | _,_=>False
 | .slice e,.c (.p .nil)=>match lo 0,hi 0 with
  | some a,some b=>(T e).size≠0∧0≤a∧a≤b∧b≤0∧K (.c (.p .nil)) h
  | _,_=>False
 | .slice e,.c (.own id off len) =>
  match h[id]? with
  | some (.arr k _ _)=>match lo 0,hi len with
   | some a,some b=>(T e).size≠0∧(T e).size=k∧0≤a∧a≤b∧b≤len∧K (.c (.own id (off+a.toNat) (b.toNat-a.toNat))) h
   | _,_=>False
  | _=>False
 | _,_=>False
theorem zIa (t:Fr) (o:Option Operand) (d:Int) (K:Int→Prop):bnd t o d K=match EJ t o d with|some n=>K n|none=>False:=by
 cases o with
 | none=>rfl
 | some x =>
  simp only [bnd,EJ];generalize evD t x=e;cases e with
  | c c=>cases c with
   | p p=>cases p <;> rfl
   | _=>rfl
  | _=>rfl
def zKF (T:Tab) (k:TK) (h:aC) (x:DV) (lo hi mx:Int→Option Int) (K:DV→aC→Prop):Prop :=
 match k,x with
 | .slice e,.c (.p (.sl k es))=>match lo 0,hi (-1),mx (-1) with
  | some a,some b,some c=>(T e).size≠0∧(T e).size=k∧a=0∧b=c∧0≤b∧b≤es.length∧K (.c (.full k (es.take b.toNat))) h
  | _,_,_=>False
 | _,_=>False
theorem zI3 {ty:TypeId} {x mx:Operand} {lo hi:Option Operand}:dop P T (.slice ty x lo hi (some mx)) t h K=zKF T (T ty).k h (evD t x) (EJ t lo) (EJ t hi) (EJ t (some mx)) K:=by
 show zBA T ty (evD t x) (bnd t lo) (bnd t hi) (bnd t (some mx)) (fun d=>K d h)=_;unfold zBA zKF;simp only [zIa];generalize (T ty).k=k;generalize evD t x=d;cases k with
 | slice e=>cases d with
  | c c=>cases c with
   | p p=>cases p with
    | sl k es =>
     simp only;cases EJ t lo 0 <;> simp only [and_false];cases EJ t hi (-1) <;> simp only [and_false];cases EJ t (some mx) (-1) <;> simp only [and_false]
    | _=>rfl
   | _=>rfl
  | _=>rfl
 | _=>rfl
theorem zFK {ty:TypeId} {x:Operand} {lo hi:Option Operand}:dop P T (.slice ty x lo hi none) t h K=zE2 T (T ty).k h (evD t x) (EJ t lo) (EJ t hi) K:=by
 show JY T ty h (evD t x) (bnd t lo) (bnd t hi) (fun d=>K d h)=_;unfold JY zE2;simp only [zIa];generalize (T ty).k=k;generalize evD t x=d;cases k with
 | str=>cases d with
  | c c=>cases c with
   | p p=>cases p with
    | s l =>
     simp only;cases EJ t lo 0 <;> simp only;cases EJ t hi (l.length:Int) <;> rfl
    | _=>rfl
   | _=>rfl
  | _=>rfl
 | slice e=>cases d with
  | c c=>cases c with
   | p p=>cases p with
    | nil =>
     simp only;cases EJ t lo 0 <;> simp only [and_false];cases EJ t hi 0 <;> simp only [and_false]
    | sl k es =>
     simp only;cases EJ t lo 0 <;> simp only [and_false];cases EJ t hi (es.length:Int) <;> simp only [and_false]
    | _=>rfl
   | own id off len =>
    simp only;cases h[id]? with
    | none=>rfl
    | some b=>cases b with
     | arr k es r =>
      simp only;cases EJ t lo 0 <;> simp only [and_false];cases EJ t hi (len:Int) <;> simp only [and_false]
     | _=>rfl
   | _=>rfl
  | _=>rfl
 | _=>rfl
theorem zBU {s f:Nat} {x:Operand}:dop P T (.fieldAddr s x f) t h K=JM T s h (evD t x) f (kD K h):=nr rfl
def zIF (T:Tab) (k:TK) (x:DV) (f:Nat) (K:DV→Prop):Prop :=
 match k,x with
 | .struct fs,.agg cells =>
  match fs[f]? with
  | some (ft,off)=>zBX (T ft) cells off K
  | none=>False
 | _,_=>False
theorem zFG {ty f:Nat} {x:Operand}:dop P T (.field ty x f) t h K=zIF T (T ty).k (evD t x) f (kD K h):=nr rfl
theorem zBV {ty:Nat} {x i:Operand}:dop P T (.indexAddr ty x i) t h K=xL T ty h (evD t x) (evD t i) (kD K h):=nr rfl
theorem zFH {ty:Nat} {x i:Operand}:dop P T (.index ty x i) t h K=JP T ty (evD t x) (evD t i) (kD K h):=nr rfl
def XG (d:DV) (n:Nat) (h:aC) (K:DV→aC→Prop):Prop :=
 match d with
 | .tup xs =>
  match xs[n]? with
  | some e=>K e.toDV h
  | none=>False
 | _=>False
theorem YN {x:Operand} {n:Nat}:dop P T (.extract x n) t h K=XG (evD t x) n h K:=nr rfl
def zNs (f:FuncId) (c:Option (List KV)) (h:aC) (K:DV→aC→Prop):Prop :=
 match c with
 | some cap=>K (.c (.clo f cap)) h
 | none=>False
theorem zI4 {f:FuncId} {l:List Operand}:dop P T (.makeFunc (.func f) #[] l.toArray) t h K=zNs f (EM (evL t l)) h K:=by
 rw [← KI];simp only [dop,zNs];cases EM (List.map (evD t) l) <;> rfl
theorem zI6 {ty:Nat} {l c:Operand}:dop P T (.makeSlice ty l c) t h K=zBK T ty (evD t l) (evD t c) h K:=nr rfl
def zMk (P:Program) (d:DV) (args:List DV) (h:aC) (K:DV→aC→Prop):Prop :=
 match d with
 | .c (.clo g cap)=>aA P g (args++cap.map KV.toDV) h K
 | _=>False
theorem zI1 {f:Operand} {l:List Operand} {ats:Array TypeId}:dop P T (.call { callee:=.value f,args:=l.toArray,argTypes:=ats }) t h K=zMk P (evD t f) (evL t l) h K:=by
 rw [← KI];simp only [dop];rfl
theorem zLe {ty:Nat} {tys:List Nat} {x:Operand}:dop P T (.call { callee:=.builtin .len,args:=[x].toArray,argTypes:=(ty::tys).toArray }) t h K=dlen (T ty) h (evD t x) (kD K h):=by
 simp only [dop];rfl
theorem zBQ {ty tu:Nat} {x y:Operand}:dop P T (.call { callee:=.builtin .append,args:=[x,y].toArray,argTypes:=[ty,tu].toArray }) t h K=xF T ty tu (evD t x) (evD t y) h K:=by
 simp only [dop]
theorem zFF {ty:Nat} {x:Operand}:dop P T (.call { callee:=.builtin .clear,args:=[x].toArray,argTypes:=[ty].toArray }) t h K=JL T ty (evD t x) h K:=by
 simp only [dop]
theorem zLg {l:List Operand} {ats:Array TypeId}:dop P T (.call { callee:=.builtin .min,args:=l.toArray,argTypes:=ats }) t h K=dmm true (evL t l) (kD K h):=by
 rw [← KI];simp only [dop];rfl
theorem zLf {l:List Operand} {ats:Array TypeId}:dop P T (.call { callee:=.builtin .max,args:=l.toArray,argTypes:=ats }) t h K=dmm false (evL t l) (kD K h):=by
 rw [← KI];simp only [dop];rfl
end g
section b
variable {k:IntKind} {a b:Int} {x y:List UInt8} {K:PV→Prop} {T0:TI}
theorem db_i {op:BinOp} {k':IntKind} (h1:op≠.shl) (h2:op≠.shr):JI op T0 (.c (.p (.i k a))) (.c (.p (.i k' b))) K=(k=k'∧zLa op k a b K):=by
 cases op <;> first|rfl|exact absurd rfl h1|exact absurd rfl h2
theorem zK6 {k':IntKind}:JI .shl T0 (.c (.p (.i k a))) (.c (.p (.i k' b))) K=(0≤b∧K (.i k (k.wrap (a*2 ^ (min b.toNat k.bits))))):=nr rfl
theorem zK7 {k':IntKind}:JI .shr T0 (.c (.p (.i k a))) (.c (.p (.i k' b))) K=(0≤b∧K (.i k (a.fdiv (2 ^ (min b.toNat k.bits))))):=nr rfl
theorem db_s {op:BinOp}:JI op T0 (.c (.p (.s x))) (.c (.p (.s y))) K=zLm op x y K:=nr rfl
theorem db_f {op:BinOp} {x y:Nat}:JI op T0 (.c (.p (.f x))) (.c (.p (.f y))) K=zK8 op x y K:=nr rfl
def vbb (k:TK) (op:BinOp) (a b:Bool) (K:PV→Prop):Prop :=
 match k,op with
 | .bool,.eql=>K (.b (a == b))
 | .bool,.neq=>K (.b (!(a == b)))
 | _,_=>False
theorem db_b {op:BinOp} {x y:Bool}:JI op T0 (.c (.p (.b x))) (.c (.p (.b y))) K=vbb T0.k op x y K:=nr rfl
def vnl (k:TK) (op:BinOp) (x:PV) (K:PV→Prop):Prop :=
 match k,op with
 | .slice _,.eql=>zDE x (kB K)
 | .slice _,.neq=>zDE x (kN K)
 | _,_=>False
theorem db_n {op:BinOp} {x:PV}:JI op T0 (.c (.p x)) (.c (.p .nil)) K=vnl T0.k op x K:=by
 cases x <;> rfl
end b
end
end Go.Dm
end
section
namespace Go.Dm
open Go
theorem wrap_u64 {n:Int} (h1:0≤n) (h2:n≤18446744073709551615):IntKind.u64.wrap n=n:=by
 simp only [IntKind.wrap,IntKind.bits,IntKind.signed,Bool.false_and,Bool.false_eq_true,if_false];omega
theorem wrap_u8 {n:Int} (h1:0≤n) (h2:n≤255):IntKind.u8.wrap n=n:=by
 simp only [IntKind.wrap,IntKind.bits,IntKind.signed,Bool.false_and,Bool.false_eq_true,if_false];omega
theorem zH2 (b:UInt8):IntKind.u8.wrap (b.toNat:Int)=b.toNat:=wrap_u8 (by omega) (by have:=b.toNat_lt;omega)
theorem zFa (b:UInt8):IntKind.i64.wrap (b.toNat:Int)=b.toNat:=wrap_i64 (by omega) (by have:=b.toNat_lt;omega)
theorem zFb (b:UInt8):IntKind.u64.wrap (b.toNat:Int)=b.toNat:=wrap_u64 (by omega) (by have:=b.toNat_lt;omega)
def PG (h':aC) (dst:Option Tmp) (v:DV):DS→Prop:=fun s'=>s'.h=h'∧res s' dst=v
section
variable {P:Program} {T:Tab} {X0:Ctx}
theorem zDb {h h':aC} {i:Nat} {v:DV} {n:Nat} {t:Fr}:PG h' (some i) v ⟨n,t,h⟩=(h=h'∧look t i=v):=nr rfl
theorem zDa {h h':aC} {v:DV} {n:Nat} {t:Fr}:PG h' none v ⟨n,t,h⟩=(h=h'∧.tup []=v):=nr rfl
theorem LJ {S:List Nat} {j:Nat} {t:Fr} (h:S.contains j=true):look (keep S t) j=look t j:=by rw [nL,if_pos h]
theorem zJd {l:List Oper} {n i:Nat} {rest:List Nat} {t:Fr} {h:aC} {K:DS→Prop} {o:Oper} (v:DV) (ho:l[i]? = some o)
  (h1:∀ S:List Nat,S=o.looksAt l.toArray→hZ P T l.toArray [o] ⟨n,keep S t,h⟩ (PG h o.dst v)) (h3:tG P T l.toArray n [] K rest (PJ t o.dst v) [h]):tG P T l.toArray n [] K (i::rest) t [h] :=
 JX v (by simpa using ho) rfl (h1 _ rfl) (by simp) h3
theorem zJe {l:List Oper} {n i:Nat} {chain rest:List Nat} {t:Fr} {h:aC} {old:List aC} {K:DS→Prop} {o:Oper} (v:DV) (ho:l[i]? = some o) (hc:chain.contains i=false)
  (h1:∀ S:List Nat,S=o.looksAt l.toArray→∀ h0∈h::old.take (old.length-zLD l.toArray chain i),hZ P T l.toArray [o] ⟨n,keep S t,h0⟩ (PG h0 o.dst v)) (h3:tG P T l.toArray n chain K rest (PJ t o.dst v) (h::old)):
  tG P T l.toArray n chain K (i::rest) t (h::old) :=
 JX v (by simpa using ho) hc (h1 _ rfl h (by simp)) (fun h0 hh=>h1 _ rfl h0 (by simp [hh])) h3
theorem zMN {l:List Oper} {n i:Nat} {chain rest:List Nat} {t:Fr} {h:aC} {old:List aC} {K:DS→Prop} {o:Oper} (v:DV) (h':aC) (ho:l[i]? = some o) (hc:chain.contains i=true)
  (h1:∀ S:List Nat,S=o.looksAt l.toArray→hZ P T l.toArray [o] ⟨n,keep S t,h⟩ (PG h' o.dst v)) (h3:tG P T l.toArray n chain K rest (PJ t o.dst v) (h' :: h::old)):
  tG P T l.toArray n chain K (i::rest) t (h::old) :=
 zJf v h' (by simpa using ho) hc (h1 _ rfl) h3
theorem aT {l:List Oper} {n:Nat} {chain:List Nat} {t:Fr} {h:aC} {old:List aC} {K:DS→Prop} (hk:K ⟨n,t,h⟩):tG P T l.toArray n chain K [] t (h::old):=zFN hk
theorem zHO {id:Nat} {ops:Array Oper} {s:DS} {Q:Exit→DS→Prop}:vc P T X0 (.region id ops true) s Q=SWP P X0 (.region id ops true) s Q:=nr rfl
theorem aN (hT:bD P T) (hm:P.follows .mixedOrders=true) {id:Nat} {l:List Oper} {n:Nat} {t:Fr} {h:aC} {Q:Exit→DS→Prop} (chain order:List Nat) (hp:rS l.toArray n chain order=true) (hd:tG P T l.toArray n chain (Q .normal) order t [h]):
  SWP P X0 (.region id l.toArray true) ⟨n,t,h⟩ Q:=swp_drawn hT hm chain order hp hd
theorem aG {t:Fr} {i:Nat} {v:DV}:PJ t (some i) v=(i,v)::t:=nr rfl
theorem bI {t:Fr} {v:DV}:PJ t none v=t:=nr rfl
end
section use
variable {P:Program} {f:FuncId} {args args':List DV} {h:aC} {r:DV} {K:DV→aC→Prop}
theorem dM (hc:aA P f args [] fun d h'=>d=r∧h'=[]) (hp:gK h args=some args) (hfl:KN r=true) (hk:K r h):aA P f args h K:=aA.useFlat hc hp hfl hk
theorem kM (hc:aA P f args [] fun d h'=>d=r∧h'=[]) (hp:gK h args=some args) (hsh:∀ n,r.sh n=r) (hk:K r (tK h (kF args))):aA P f args h K:=aA.use hc hp hsh hk
theorem zEQ {α:Type} {C:α→Prop} {e:α→DV} (hc:aA P f args [] fun d h'=>∃ x,C x∧d=e x∧h'=[]) (hp:gK h args=some args) (hfl:∀ x,C x→KN (e x)=true) (hk:∀ x,C x→K (e x) h):aA P f args h K :=
 (aA.flat h hp (fun d h0 ⟨x,hx,hd,_⟩=>by rw [hd];exact hfl x hx) hc).mono fun d h' ⟨⟨h0,x,hx,h1,h2⟩,h3⟩=>by
  rw [h1,h3];exact hk x hx
theorem aA.frz (hne:(kF args).isEmpty=false) (hp:gK h args=some args') (hd:aA P f args' (tK h (kF args)) K):aA P f args h K:=by
 intro X vals hh hi gd hr;obtain ⟨X',h1,h2,h3,h4,h5,h6⟩:=iR (kF args) hi;rw [← hh] at hp hd;have hr':dC X' args' vals:=kR (Y:=X') hi h4 h1 rfl rfl hr hp h6;have key:∀ v w',Ret X' K v w'→Ret X K v w':=fun v w' ⟨d,Y,k1,k2,k3,k4,k5⟩=>⟨d,Y,k1,k2,h4.trans h5 k3,k4,k5⟩;rw [← h1];rcases hd X' vals h2 h5 (gd.step h4) hr' with ⟨h7,h8⟩|⟨v,w',h7,h8⟩
 ·exact .inl ⟨h7,h8.mono fun e w' ⟨v,he,hv⟩=>⟨v,he,key _ _ hv⟩⟩
 ·exact .inr ⟨v,w',h7,key _ _ h8⟩
end use
attribute [go_sem] Nat.zero_add Nat.add_zero Nat.mul_one zFO List.take_length List.drop_zero List.length_map
attribute [go_sem] cond_true cond_false
attribute [go_sem] wrap_i64 wrap_u64 wrap_u8 zH2 zFa zFb zKB zMi zKz zMj zHN zKy zEV zHO zKA zNz zNA zNy qb_n qb_r qb_e ql_e ql_r zKG zKH zKE zKD zMn zMo zHP zJy zJx
 zDi zDh zM1 zMZ zMY zM0 zM2 zNw zNt zNv zNu zMl vp_t vp_f vp_b zI7 zBS zI9 zEW zFD zNK zLd zKQ evL zFE NY NW zEX zES zHM zBT
 zI5 zFL zMm zI8 zLc zMM zI2 EJ zE2 zFK zKF zI3 zBU zIF zFG zBV zFH XG YN zNs zI4 zI6 zMk zI1 zLe zBQ zFF zLg zLf
 db_i zK6 zK7 db_s db_f vbb db_b vnl db_n zDb zDa aG bI
attribute [go_sem] zFI zJa zFJ zBI zBN JT zLv zJU zLN zLO zLP zG4
attribute [go_sem] zAR zH7 ES zJp zCH zGq YW JD aD zLa zK8 zLm dun tC JZ JM zBX xL JP zBx xH dlen xF JL xP dmm zBK cellsD EV.toDV KV.toDV EM zIR zIQ TK.agg splice cellss zIr pvs zAW zJz yB zCZ
 zEn QM gK QC zGp BN zJ3 zK9 kF zMO YQ tK zFf bN aF cH mU iP zG5 LV RR zDF zDG uL lJ DV.sh CV.sh EV.sh KV.sh zGv KM zCP KN
attribute [go_sem] List.getElem?_cons_zero List.getElem?_cons_succ List.map_cons List.map_nil List.take_succ_cons List.take_zero List.take_nil List.drop_succ_cons List.drop_zero List.drop_nil List.nil_append List.cons_append List.append_nil List.set_cons_zero List.set_cons_succ
 List.length_cons List.length_nil List.length_append List.length_singleton List.all_cons List.all_nil List.reverse_cons List.reverse_nil Option.map_some Option.map_none Option.bind_some List.getD_cons_zero List.getD_cons_succ List.isEmpty_nil
 ne_eq not_false_eq_true not_true_eq_false true_and and_true false_and and_false reduceCtorEq decide_true decide_false Bool.false_eq_true Int.toNat_natCast Bool.not_true Bool.not_false eq_self true_implies false_implies List.forall_mem_cons forall_const implies_true List.not_mem_nil List.mem_cons or_false forall_eq_or_imp forall_eq Int.cast_ofNat_Int
 List.toList_toArray Bool.and_true Bool.true_and Bool.and_false Bool.false_and Bool.or_false Bool.or_true Bool.true_or Bool.false_or
end Go.Dm
end
section
namespace Go.Dm
open Go
section
variable {P:Program} {T:Tab} {X0:Ctx} {c:Code} {Q:Exit→DS→Prop}
def VR (P:Program) (T:Tab) (X0:Ctx) (c:Code) (Q:Exit→DS→Prop):Nat→DS→Prop
 | 0,_=>False
 | n+1,s=>vc P T X0 c s fun e s'=>match e with
  | .normal=>VR P T X0 c Q n s'
  | e=>Q e s'
def LA (P:Program) (T:Tab) (X0:Ctx) (c:Code) (Q:Exit→DS→Prop) (n:Nat):Exit→DS→Prop:=fun e s'=>match e with
 | .normal=>Later (VR P T X0 c Q n s')
 | e=>Q e s'
theorem zIM {n:Nat} {s:DS}:VR P T X0 c Q (n+1) s=vc P T X0 c s (LA P T X0 c Q n):=by
 have e:LA P T X0 c Q n=fun e s'=>match e with
   | .normal=>VR P T X0 c Q n s'
   | e=>Q e s':=by
  funext e s'
  cases e <;> first|rfl|exact rJ _
 rw [e];rfl
theorem kr_n {n:Nat} {s:DS}:LA P T X0 c Q n .normal s=VR P T X0 c Q n s:=rJ _
theorem kr_r {n:Nat} {s:DS}:LA P T X0 c Q n .ret s=Q .ret s:=nr rfl
theorem kr_e {n:Nat} {id:Nat} {s:DS}:LA P T X0 c Q n (.exit id) s=Q (.exit id) s:=nr rfl
theorem fL (hT:bD P T) (hm:P.follows .mixedOrders=true) (n:Nat) {s:DS} (h:VR P T X0 c Q n s):SWP P X0 (.loop c) s Q:=by
 intro gd X a hh hi hs ht;refine wp_loop_rounds n ?_
 induction n generalizing s X a with
 | zero=>exact h.elim
 | succ n ih =>
  refine wp_mono (dG hT hm c h gd X a hh hi hs ht) fun e a' w' hp=>?_;obtain ⟨s',Z,p1,rfl,p3,p4,p5,p6⟩:=hp;cases e <;> simp only [Exit.then] at p1 ⊢
  case normal=>exact ih p1 Z a' p3 p4 p5 p6
  all_goals exact ⟨s',Z,p1,rfl,p3,p4,p5,p6⟩
theorem aI {n0 n:Nat} {t t':Fr} {h h':aC} (h0:(Nat.ble n0 h'.length)=true) (h1:h'=h.take h'.length) (h2:h'.all (bN h'.length)=true) (h3:WkT h'.length t t'):EC n0 ⟨n,t,h⟩ ⟨n,t',h'⟩ :=
 ⟨rfl,Nat.le_of_ble_eq_true h0,h1,h2,h3⟩
theorem aL {n:Nat} {t:Fr}:WkT n t []=True:=nr rfl
theorem aH {n:Nat} {t t':Fr} {i:Nat} {d:DV}:WkT n t ((i,d)::t')=((look t i=d∧aJ n d=true)∧WkT n t t'):=nr rfl
theorem mB (hT:bD P T) (hm:P.follows .mixedOrders=true) {n:Nat} {t:Fr} {h:aC} (i k:Nat) (hn:look t i=.c (.p .nil)) (hd:SWP P X0 c ⟨n,(i,.c (.own h.length 0 0))::t,h++[.arr k [] false]⟩ Q):SWP P X0 c ⟨n,t,h⟩ Q :=
 zHG i k hn hd
end
theorem zKI {k:Nat}:wkD (.c (.p .nil)) (.c (.p (.sl k []))):=TH
theorem zKJ {x:PV}:wkD (.c (.p x)) (.c (.p x)):=wkP.rfl
theorem allB (l:List UInt8):(∀ x∈bO l,x.length=1)=True:=eq_true (zFP l)
theorem VH (a b:List UInt8):bO a++bO b=bO (a++b):=(QN a b).symm
theorem zK2 (n:Int) (l:List UInt8) (h1:0≤n) (h2:n≤255):[PV.i .u8 n]::bO l=bO (UInt8.ofNat n.toNat::l):=by
 simp only [bO,List.map_cons]
 congr 2
 have:(UInt8.ofNat n.toNat).toNat=n.toNat:=by rw [UInt8.toNat_ofNat'];omega
 rw [this]
 congr 1
 omega
theorem zKq {α:Type} (n:Nat) (a:α) (l:List α):List.take (1+n) (a::l)=a::List.take n l:=by rw [Nat.add_comm];rfl
theorem zKr {α:Type} (n:Nat) (a:α) (l:List α):List.take (2+n) (a::l)=a::List.take (1+n) l:=by rw [show 2+n=(1+n)+1 by omega];rfl
theorem zKs {α:Type} (n:Nat) (a:α) (l:List α):List.take (3+n) (a::l)=a::List.take (2+n) l:=by rw [show 3+n=(2+n)+1 by omega];rfl
attribute [go_sem] zK2 zKq zKr zKs
attribute [go_sem] zB2 zBZ allB VH
attribute [go_sem] exists_eq_right wkD wkE zKK wkC zE7 wkP
attribute [go_sem] zIM kr_n kr_r kr_e aL aH aJ
end Go.Dm
end
section
namespace Go.Dm
open Go
section
variable {P:Program} {T:Tab} {X0:Ctx}
theorem zGr {S:List Nat} {t:Fr} {x:Operand} (h:∀ i,x=.tmp i→S.contains i=true):evD (keep S t) x=evD t x:=by
 cases x with
 | tmp i=>simp only [evD];exact LJ (h i rfl)
 | _=>rfl
theorem zFM {S:List Nat} {t:Fr} {op:Op} {h:aC} {K:DV→aC→Prop} (hS:∀ x∈op.operands.toList,∀ i,x=.tmp i→S.contains i=true):dop P T op (keep S t) h K=dop P T op t h K:=by
 have e:∀ x∈op.operands.toList,evD (keep S t) x=evD t x:=fun x hx=>zGr (hS x hx);have em:∀ l:List Operand,(∀ x∈l,x∈op.operands.toList)→l.map (evD (keep S t))=l.map (evD t):=fun l hl=>List.map_congr_left fun x hx=>e x (hl x hx);cases op with
 | move x=>simp only [dop,e x (by simp [Op.operands])]
 | assign x=>simp only [dop,e x (by simp [Op.operands])]
 | pick c a b=>simp only [dop,e c (by simp [Op.operands]),e a (by simp [Op.operands]),e b (by simp [Op.operands])]
 | alloc ty=>rfl
 | box ty x=>simp only [dop,e x (by simp [Op.operands])]
 | build ty ps =>
  simp only [dop];rw [List.map_congr_left (g:=fun p=>(p.1,evD t p.2)) fun p hp=>by rw [e p.2 (by simp only [Op.operands,List.toList_toArray,List.mem_map];exact ⟨p,hp,rfl⟩)]]
 | buildSlice ty n ps =>
  simp only [dop];rw [List.map_congr_left (g:=fun p=>(p.1,evD t p.2)) fun p hp=>by rw [e p.2 (by simp only [Op.operands,List.toList_toArray,List.mem_map];exact ⟨p,hp,rfl⟩)]]
 | load ty x=>simp only [dop,e x (by simp [Op.operands])]
 | store ty a v=>simp only [dop,e a (by simp [Op.operands]),e v (by simp [Op.operands])]
 | nilCheck x=>simp only [dop,e x (by simp [Op.operands])]
 | binOp o ty a v ty'=>simp only [dop,e a (by simp [Op.operands]),e v (by simp [Op.operands])]
 | unOp o ty x=>simp only [dop,e x (by simp [Op.operands])]
 | convert s d x=>simp only [dop,e x (by simp [Op.operands])]
 | slice ty x lo hi mx =>
  have e1:=e x (by simp [Op.operands]);have e2:∀ d K,bnd (keep S t) lo d K=bnd t lo d K:=fun d K=>by
   cases lo with
   | none=>rfl
   | some y=>simp only [bnd,e y (by simp [Op.operands])]
  have e3:∀ d K,bnd (keep S t) hi d K=bnd t hi d K:=fun d K=>by
   cases hi with
   | none=>rfl
   | some y=>simp only [bnd,e y (by simp [Op.operands])]
  have e4:∀ d K,bnd (keep S t) mx d K=bnd t mx d K:=fun d K=>by
   cases mx with
   | none=>rfl
   | some y=>simp only [bnd,e y (by simp [Op.operands])]
  have e2:bnd (keep S t) lo=bnd t lo:=funext fun d=>funext fun K=>e2 d K;have e3:bnd (keep S t) hi=bnd t hi:=funext fun d=>funext fun K=>e3 d K;have e4:bnd (keep S t) mx=bnd t mx:=funext fun d=>funext fun K=>e4 d K;cases mx with
  | some y =>
   simp only [dop];rw [e2,e3,e4,e1]
  | none =>
   simp only [dop];rw [e2,e3,e1]
 | fieldAddr s x f=>simp only [dop,e x (by simp [Op.operands])]
 | field ty x f=>simp only [dop,e x (by simp [Op.operands])]
 | indexAddr ty a v=>simp only [dop,e a (by simp [Op.operands]),e v (by simp [Op.operands])]
 | index ty a v=>simp only [dop,e a (by simp [Op.operands]),e v (by simp [Op.operands])]
 | extract x n=>simp only [dop,e x (by simp [Op.operands])]
 | makeFunc f first cap =>
  cases f with
  | func f =>
   simp only [dop];rw [em cap.toList fun x hx=>by simp only [Op.operands,Array.toList_append,List.mem_append];exact .inr hx]
  | _=>rfl
 | makeSlice ty a v=>simp only [dop,e a (by simp [Op.operands]),e v (by simp [Op.operands])]
 | makeMap ty r =>
  cases r with
  | none=>rfl
  | some _=>rfl
 | lookup ty m x ok=>simp only [dop,e m (by simp [Op.operands]),e x (by simp [Op.operands])]
 | mapUpdate ty m x v=>simp only [dop,e m (by simp [Op.operands]),e x (by simp [Op.operands]),e v (by simp [Op.operands])]
 | call c =>
  obtain ⟨cal,args,ats⟩:=c;have ea:args.toList.map (evD (keep S t))=args.toList.map (evD t):=em _ fun x hx=>by
   simp only [Op.operands,Call.operands,Array.toList_append,List.mem_append];exact .inr hx
  cases cal with
  | value f =>
   have ef:=e f (by simp [Op.operands,Call.operands]);simp only [dop,ea,ef]
  | invoke r m=>rfl
  | builtin b =>
   have eone:∀ x∈args.toList,evD (keep S t) x=evD t x:=fun x hx=>e x (by simp only [Op.operands,Call.operands,Array.toList_append,List.mem_append];exact .inr hx);cases b with
   | len =>
    simp only [dop];split
    ·rename_i hx;rw [eone _ (by rw [hx];simp)]
    ·rfl
   | append =>
    simp only [dop];split
    ·rename_i hx;rw [eone _ (by rw [hx];simp),eone _ (by rw [hx];simp)]
    ·rfl
   | clear =>
    simp only [dop];split
    ·rename_i hx;rw [eone _ (by rw [hx];simp)]
    ·rfl
   | min=>simp only [dop,ea]
   | max=>simp only [dop,ea]
   | _=>rfl
 | _=>rfl
theorem xN {l:List Oper} {o:Oper} {n:Nat} {t:Fr} {h h':aC} {v:DV} {S:List Nat} (hS:S=o.looksAt l.toArray) (hn:(match o.dst with|some i=>Nat.blt i n|none=>true)=true)
  (hd:hZ P T l.toArray [o] ⟨n,t,h⟩ (PG h' o.dst v)):hZ P T l.toArray [o] ⟨n,keep S t,h⟩ (PG h' o.dst v):=by
 have hop:∀ K,dop P T o.op (keep S t) h K=dop P T o.op t h K:=fun K=>zFM fun x hx i hi=>by
  subst hi;subst hS;simp only [Oper.looksAt,List.contains_eq_mem,List.mem_append,decide_eq_true_eq];exact .inl (List.mem_filterMap.2 ⟨_,hx,rfl⟩)
 have hk:∀ d h0,PG h' o.dst v (DS.put ⟨n,keep S t,h⟩ o.dst d h0)=PG h' o.dst v (DS.put ⟨n,t,h⟩ o.dst d h0):=by
  intro d h0;cases hd':o.dst with
  | none=>rfl
  | some i =>
   rw [hd'] at hn;have hi:i<n:=Nat.blt_eq.mp hn;simp only [DS.put,if_pos hi,PG,res,aD,if_true]
 have hk':(fun d h0=>hZ P T l.toArray [] (DS.put ⟨n,keep S t,h⟩ o.dst d h0) (PG h' o.dst v))=fun d h0=>hZ P T l.toArray [] (DS.put ⟨n,t,h⟩ o.dst d h0) (PG h' o.dst v):=by
  funext d h0;exact hk d h0
 simp only [hZ] at hd ⊢;cases hg:o.guard with
 | none =>
  simp only [hg] at hd ⊢;rw [hop];simp only [hk];exact hd
 | some g =>
  obtain ⟨j,b⟩:=g;simp only [hg] at hd ⊢;have hgv:((l.toArray[j]?).bind (·.dst)).map (fun i=>look (keep S t) i)=((l.toArray[j]?).bind (·.dst)).map fun i=>look t i:=by
   cases hy:(l.toArray[j]?).bind (·.dst) with
   | none=>rfl
   | some i =>
    simp only [Option.map_some];rw [LJ];subst hS;simp only [Oper.looksAt,hg,hy,List.contains_eq_mem,List.mem_append,decide_eq_true_eq];exact .inr (by simp)
  rw [hgv];simp only [hop,hk];exact hd
theorem bV {l:List Oper} {n i:Nat} {rest:List Nat} {t:Fr} {h:aC} {K:DS→Prop} {o:Oper} (v:DV) (ho:l[i]? = some o) (hn:(match o.dst with|some i=>Nat.blt i n|none=>true)=true)
  (h1:hZ P T l.toArray [o] ⟨n,t,h⟩ (PG h o.dst v)) (h3:tG P T l.toArray n [] K rest (PJ t o.dst v) [h]):tG P T l.toArray n [] K (i::rest) t [h] :=
 zJd v ho (fun _ hS=>xN hS hn h1) h3
theorem cV {l:List Oper} {n i:Nat} {chain rest:List Nat} {t:Fr} {h:aC} {old:List aC} {K:DS→Prop} {o:Oper} (v:DV) (h':aC) (ho:l[i]? = some o) (hn:(match o.dst with|some i=>Nat.blt i n|none=>true)=true) (hc:chain.contains i=true)
  (h1:hZ P T l.toArray [o] ⟨n,t,h⟩ (PG h' o.dst v)) (h3:tG P T l.toArray n chain K rest (PJ t o.dst v) (h' :: h::old)):tG P T l.toArray n chain K (i::rest) t (h::old) :=
 zMN v h' ho hc (fun _ hS=>xN hS hn h1) h3
theorem zLl {l:List Oper} {n i:Nat} {chain rest:List Nat} {t:Fr} {h:aC} {old:List aC} {K:DS→Prop} {o:Oper} (v:DV) (ho:l[i]? = some o) (hn:(match o.dst with|some i=>Nat.blt i n|none=>true)=true) (hc:chain.contains i=false)
  (h1:∀ h0∈h::old.take (old.length-zLD l.toArray chain i),hZ P T l.toArray [o] ⟨n,t,h0⟩ (PG h0 o.dst v)) (h3:tG P T l.toArray n chain K rest (PJ t o.dst v) (h::old)):tG P T l.toArray n chain K (i::rest) t (h::old) :=
 zJe v ho hc (fun _ hS h0 hh=>xN hS hn (h1 h0 hh)) h3
theorem cU {l:List Oper} {n i:Nat} {chain rest:List Nat} {t:Fr} {h:aC} {old:List aC} {K:DS→Prop} {o:Oper} (v:DV) (ho:l[i]? = some o) (hn:(match o.dst with|some i=>Nat.blt i n|none=>true)=true) (hc:chain.contains i=false)
  (h1:∀ h0∈h::old,hZ P T l.toArray [o] ⟨n,t,h0⟩ (PG h0 o.dst v)) (h3:tG P T l.toArray n chain K rest (PJ t o.dst v) (h::old)):tG P T l.toArray n chain K (i::rest) t (h::old) :=
 zLl v ho hn hc (fun h0 hh=>h1 h0 (by
  rcases List.mem_cons.1 hh with e|e
  ·exact e▸List.mem_cons_self
  ·exact List.mem_cons_of_mem _ (List.mem_of_mem_take e))) h3
theorem bG {p:aC→Prop}:∀ h∈([]:List aC),p h:=fun _ h=>by cases h
theorem aZ {p:aC→Prop} {h:aC} {l:List aC} (h1:p h) (h2:∀ x∈l,p x):∀ x∈h::l,p x:=fun x hx=>by
 rcases List.mem_cons.1 hx with e|e
 ·exact e▸h1
 ·exact h2 x e
end
end Go.Dm
end
section
namespace Go.Dm
open Go
def zLZ (a b:Nat):KV→Bool
 | .p _=>true
 | .ptr i _=>decide (i≠a) && decide (i≠b)
def vA (a b:Nat):CV→Option CV
 | .p x=>some (.p x)
 | .own i off len=>if i=b then some (.own a off len) else if i=a then none else some (.own i off len)
 | .ptr i off=>if i=a then none else if i=b then none else some (.ptr i off)
 | .aptr i x y=>if i=a then none else if i=b then none else some (.aptr i x y)
 | .mp i=>if i=a then none else if i=b then none else some (.mp i)
 | .bs i n=>if i=a then none else if i=b then none else some (.bs i n)
 | .eptr cs=>some (.eptr cs)
 | .full k es=>some (.full k es)
 | .clo f cap=>if cap.all (zLZ a b) then some (.clo f cap) else none
def tX (a b:Nat):List CV→Option (List CV)
 | []=>some []
 | c::cs=>match vA a b c,tX a b cs with
  | some x,some xs=>some (x::xs)
  | _,_=>none
def tY (a b:Nat):DV→DV
 | .jk=>.jk
 | .c x=>match vA a b x with
  | some y=>.c y
  | none=>.jk
 | .agg xs=>match tX a b xs with
  | some ys=>.agg ys
  | none=>.jk
 | .tup []=>.tup []
 | .tup _=>.jk
def vB (a b:Nat):Fr→Fr
 | []=>[]
 | p::t=>(p.1,tY a b p.2)::vB a b t
def renB (a b:Nat):DB→DB
 | .box cells=>match tX a b cells with
  | some c=>.box c
  | none=>.dead
 | x=>x
def zIu (a b:Nat):aC→aC
 | []=>[]
 | x::l=>renB a b x::zIu a b l
def zJ2 (a b:Nat) (h:aC):aC:=((zIu a b h).set a (h.getD b .dead)).set b .dead
theorem FW (a b:Nat) (i:Nat):∀ t:Fr,look (vB a b t) i=tY a b (look t i)
 | []=>rfl
 | p::t=>by
  simp only [vB,look];split
  ·rfl
  ·exact FW a b i t
theorem zEh (a b:Nat):∀ (h:aC) (i:Nat),(zIu a b h)[i]? = (h[i]?).map (renB a b)
 | [],i=>by simp [zIu]
 | x::l,0=>rfl
 | x::l,i+1=>by simp only [zIu,List.getElem?_cons_succ];exact zEh a b l i
theorem GU (a b:Nat):∀ h:aC,(zIu a b h).length=h.length
 | []=>rfl
 | x::l=>by simp [zIu,GU a b l]
theorem jV (a b:Nat) (h:aC):(zJ2 a b h).length=h.length:=by simp [zJ2,GU]
theorem jB {a b:Nat} {x:DB} (h:(renB a b x).live=true):x.live=true∧(renB a b x).fix=x.fix:=by
 cases x with
 | box cells=>exact ⟨rfl,by simp only [renB];split <;> rfl⟩
 | dead=>simp [renB,DB.live] at h
 | arr k es r=>exact ⟨rfl,rfl⟩
 | mp es=>exact ⟨rfl,rfl⟩
def Ctx.ren (X:Ctx) (a b:Nat):Ctx:=⟨X.w,X.S,fun i=>if i=a then X.G b else X.G i,zJ2 a b X.h⟩
section
variable {X:Ctx} {a b:Nat}
theorem gD {h:aC} (hab:a≠b) {i:Nat} {db:DB} (hd:(zJ2 a b h)[i]? = some db) (hl:db.live=true):(i=a∧h[b]? = some db∧a<h.length)∨(i≠a∧i≠b∧∃ x,h[i]? = some x∧db=renB a b x):=by
 unfold zJ2 at hd;rcases cA hd with ⟨rfl,rfl,_⟩|⟨hne,hd⟩
 ·simp [DB.live] at hl
 ·rcases cA hd with ⟨rfl,rfl,hlt⟩|⟨hne2,hd⟩
  ·left;refine ⟨rfl,?_,by simpa [GU] using hlt⟩
   rw [List.getD_eq_getElem?_getD] at hl ⊢;cases hb:h[b]? with
   | none=>rw [hb] at hl;simp [DB.live] at hl
   | some x=>rfl
  ·right;rw [zEh] at hd;obtain ⟨x,h1,h2⟩:=Option.map_eq_some_iff.1 hd;exact ⟨hne2,hne,x,h1,h2.symm⟩
theorem pE.ren (hab:a≠b) {c:KV} {v:Value} (hc:zLZ a b c=true) (h:pE X c v):pE (X.ren a b) c v:=by
 cases c <;> simp only [pE] at h ⊢
 case p=>exact h
 case ptr id off =>
  simp only [zLZ,Bool.and_eq_true,decide_eq_true_eq] at hc;obtain ⟨h1,h2,h3⟩:=h;refine ⟨by simpa [Ctx.ren,jV] using h1,h2,fun cells hd=>?_⟩
  rcases gD hab hd rfl with ⟨h4,_⟩|⟨_,_,x,h5,h6⟩
  ·exact absurd h4 hc.1
  ·cases x with
   | box cells'=>simp only [Ctx.ren,if_neg hc.1];exact h3 _ h5
   | dead=>simp [renB] at h6
   | mp es=>simp [renB] at h6
   | arr k es r=>simp [renB] at h6
theorem eQ.ren (hab:a≠b):∀ {cs:List KV} {vs:List Value},cs.all (zLZ a b)=true→eQ X cs vs→eQ (X.ren a b) cs vs
 | [],[],_,_=>True.intro
 | _::_,_::_,hc,h=>by
  simp only [List.all_cons,Bool.and_eq_true] at hc;exact ⟨h.1.ren hab hc.1,eQ.ren hab hc.2 h.2⟩
 | [],_::_,_,h=>h.elim
 | _::_,[],_,h=>h.elim
theorem bS.ren (hab:a≠b) {kb:Nat} {eb:List (List PV)} (hb:X.h[b]? = some (.arr kb eb false)) (ha:a<X.h.length) {c c':CV} {v:Value} (hc:vA a b c=some c') (h:bS X c v):bS (X.ren a b) c' v:=by
 cases c <;> simp only [vA] at hc
 case p=>cases hc;exact h
 case own i off len =>
  split at hc
  ·rename_i hi;subst hi;cases hc;simp only [bS] at h ⊢;obtain ⟨h1,h2,h3⟩:=h;refine ⟨by simpa [Ctx.ren,jV] using ha,h2,fun k es ro hd=>?_⟩
   rcases gD hab hd rfl with ⟨_,h5,_⟩|⟨h4,_⟩
   ·have:=h3 _ _ _ h5;simp only [Ctx.ren,if_true];exact this
   ·exact absurd rfl h4
  ·rename_i hi;split at hc
   ·cases hc
   ·rename_i hia;cases hc;simp only [bS] at h ⊢;obtain ⟨h1,h2,h3⟩:=h;refine ⟨by simpa [Ctx.ren,jV] using h1,h2,fun k es ro hd=>?_⟩
    rcases gD hab hd rfl with ⟨h4,_⟩|⟨_,_,x,h5,h6⟩
    ·exact absurd h4 hia
    ·cases x with
     | arr k' es' r' =>
      simp only [renB] at h6;cases h6;have:=h3 _ _ _ h5;simp only [Ctx.ren,if_neg hia];exact this
     | dead=>simp [renB] at h6
     | mp es=>simp [renB] at h6
     | box cells=>simp only [renB] at h6;split at h6 <;> cases h6
 case ptr i off =>
  split at hc
  ·cases hc
  ·rename_i hia;split at hc
   ·cases hc
   ·rename_i hib;cases hc;simp only [bS] at h ⊢;obtain ⟨h1,h2,h3⟩:=h;refine ⟨by simpa [Ctx.ren,jV] using h1,h2,fun cells hd=>?_⟩
    rcases gD hab hd rfl with ⟨h4,_⟩|⟨_,_,x,h5,h6⟩
    ·exact absurd h4 hia
    ·cases x with
     | box cells'=>simp only [Ctx.ren,if_neg hia];exact h3 _ h5
     | dead=>simp [renB] at h6
     | mp es=>simp [renB] at h6
     | arr k es r=>simp [renB] at h6
 case aptr i x y =>
  split at hc
  ·cases hc
  ·rename_i hia;split at hc
   ·cases hc
   ·rename_i hib;cases hc;simp only [bS] at h ⊢;obtain ⟨h1,h2,h3⟩:=h;refine ⟨by simpa [Ctx.ren,jV] using h1,h2,fun k es ro hd=>?_⟩
    rcases gD hab hd rfl with ⟨h4,_⟩|⟨_,_,q,h5,h6⟩
    ·exact absurd h4 hia
    ·cases q with
     | arr k' es' r' =>
      simp only [renB] at h6;cases h6;simp only [Ctx.ren,if_neg hia];exact h3 _ _ _ h5
     | dead=>simp [renB] at h6
     | mp es=>simp [renB] at h6
     | box cells=>simp only [renB] at h6;split at h6 <;> cases h6
 case bs i n =>
  split at hc
  ·cases hc
  ·rename_i hia;split at hc
   ·cases hc
   ·rename_i hib;cases hc;simp only [bS] at h ⊢;obtain ⟨h1,h2,h3⟩:=h;refine ⟨by simpa [Ctx.ren,jV] using h1,h2,fun cells hd=>?_⟩
    rcases gD hab hd rfl with ⟨h4,_⟩|⟨_,_,x,h5,h6⟩
    ·exact absurd h4 hia
    ·cases x with
     | box cells'=>simp only [Ctx.ren,if_neg hia];exact h3 _ h5
     | dead=>simp [renB] at h6
     | mp es=>simp [renB] at h6
     | arr k es r=>simp [renB] at h6
 case mp i =>
  split at hc
  ·cases hc
  ·rename_i hia;split at hc
   ·cases hc
   ·rename_i hib;cases hc;simp only [bS] at h ⊢;obtain ⟨h1,h2,h3⟩:=h;refine ⟨by simpa [Ctx.ren,jV] using h1,h2,fun es hd=>?_⟩
    rcases gD hab hd rfl with ⟨h4,_⟩|⟨_,_,q,h5,h6⟩
    ·exact absurd h4 hia
    ·cases q with
     | mp es' =>
      simp only [renB] at h6;cases h6;simp only [Ctx.ren,if_neg hia];exact h3 _ h5
     | dead=>simp [renB] at h6
     | arr k es r=>simp [renB] at h6
     | box cells=>simp only [renB] at h6;split at h6 <;> cases h6
 case eptr cs=>cases hc;exact h
 case full k es=>cases hc;exact h
 case clo f cap =>
  split at hc
  ·rename_i hk;cases hc;obtain ⟨vs,h1,h2⟩:=h;exact ⟨vs,h1,h2.ren hab hk⟩
  ·cases hc
theorem bB.ren (hab:a≠b) {kb:Nat} {eb:List (List PV)} (hb:X.h[b]? = some (.arr kb eb false)) (ha:a<X.h.length):∀ {cs cs':List CV} {vs:List Value},tX a b cs=some cs'→bB X cs vs→bB (X.ren a b) cs' vs
 | [],_,[],hc,_=>by simp only [tX] at hc;cases hc;exact True.intro
 | c::cs,cs',v::vs,hc,h=>by
  simp only [tX] at hc;split at hc
  ·rename_i x xs h1 h2;cases hc;exact ⟨h.1.ren hab hb ha h1,bB.ren hab hb ha h2 h.2⟩
  ·cases hc
 | [],_,_::_,_,h=>h.elim
 | _::_,_,[],_,h=>h.elim
theorem bA.ren (hab:a≠b) {kb:Nat} {eb:List (List PV)} (hb:X.h[b]? = some (.arr kb eb false)) (ha:a<X.h.length) {d:DV} {v:Value} (h:bA X d v):bA (X.ren a b) (tY a b d) v:=by
 cases d with
 | jk=>exact True.intro
 | c x =>
  simp only [tY];split
  ·rename_i y hy;exact bS.ren hab hb ha hy h
  ·exact True.intro
 | agg xs =>
  simp only [tY];split
  ·rename_i ys hy;obtain ⟨vs,h1,h2⟩:=h;exact ⟨vs,h1,h2.ren hab hb ha hy⟩
  ·exact True.intro
 | tup es =>
  cases es with
  | nil =>
   obtain ⟨vs,h1,h2⟩:=h;cases vs with
   | nil=>exact ⟨[],h1,True.intro⟩
   | cons _ _=>exact h2.elim
  | cons _ _=>exact True.intro
theorem cP.ren (hab:a≠b) {kb:Nat} {eb:List (List PV)} (hb:X.h[b]? = some (.arr kb eb false)) (ha:a<X.h.length) {bl:Nat}:∀ {cs cs':List CV} {off:Nat},tX a b cs=some cs'→cP X bl off cs→cP (X.ren a b) bl off cs'
 | [],_,_,hc,_=>by simp only [tX] at hc;cases hc;exact True.intro
 | c::cs,cs',off,hc,h=>by
  simp only [tX] at hc;split at hc
  ·rename_i x xs h1 h2;cases hc;obtain ⟨⟨v,h3,h4⟩,h5⟩:=h;exact ⟨⟨v,h3,h4.ren hab hb ha h1⟩,cP.ren hab hb ha h2 h5⟩
  ·cases hc
theorem MO:∀ {cs cs':List CV},tX a b cs=some cs'→cs'.length=cs.length
 | [],_,h=>by simp only [tX] at h;cases h;rfl
 | c::cs,cs',h=>by
  simp only [tX] at h;split at h
  ·rename_i x xs h1 h2;cases h;simp [MO h2]
  ·cases h
theorem HInv.ren (hi:HInv X) (hab:a≠b) {kb:Nat} {eb:List (List PV)} (hb:X.h[b]? = some (.arr kb eb false)) (ha:a<X.h.length):HInv (X.ren a b) where
 slt:=hi.slt
 blk:=fun i db h=>by
  by_cases hl:db.live=true
  ·rcases gD hab h hl with ⟨rfl,h1,_⟩|⟨h1,h2,x,h3,rfl⟩
   ·have:=hi.blk b db h1;rw [hb] at h1;cases h1;simp only [dU,Ctx.ren,if_true] at this ⊢;exact this
   ·have:=hi.blk i x h3;cases x with
    | dead=>simp [renB,DB.live] at hl
    | arr k es r =>
     simp only [renB,dU,Ctx.ren,if_neg h1] at this ⊢;exact this
    | mp es =>
     simp only [renB,dU,Ctx.ren,if_neg h1] at this ⊢;exact this
    | box cells =>
     simp only [renB] at hl ⊢;split
     ·rename_i c hc;simp only [dU] at this ⊢;obtain ⟨g,arr,el,fz,g1,g2,g3,g4,g5⟩:=this;exact ⟨g,arr,el,fz,by simp only [Ctx.ren,if_neg h1];exact g1,g2,by rw [MO hc];exact g3,g4,g5.ren hab hb ha hc⟩
     ·trivial
  ·cases db <;> simp_all [DB.live,dU]
 own:=fun i db g h hl hg=>by
  rcases gD hab h hl with ⟨rfl,h1,_⟩|⟨h1,h2,x,h3,rfl⟩
  ·simp only [Ctx.ren,if_true] at hg;exact hi.own b db g h1 hl hg
  ·simp only [Ctx.ren,if_neg h1] at hg;have hx:=jB hl;rw [hx.2];exact hi.own i x g h3 hx.1 hg
 inj:=fun i d i' d' g g' h hl hf h' hl' hg hg' he=>by
  rcases gD hab h hl with ⟨rfl,h1,_⟩|⟨h1,h2,x,h3,rfl⟩ <;> rcases gD hab h' hl' with ⟨rfl,h1',_⟩|⟨h1',h2',x',h3',rfl⟩
  ·rfl
  ·simp only [Ctx.ren,if_true] at hg;simp only [Ctx.ren,if_neg h1'] at hg';have hx':=jB hl';exact absurd (hi.inj b d i' x' g g' h1 hl hf h3' hx'.1 hg hg' he).symm h2'
  ·simp only [Ctx.ren,if_neg h1] at hg;simp only [Ctx.ren,if_true] at hg';have hx:=jB hl;rw [hx.2] at hf;exact absurd (hi.inj i x b d' g g' h3 hx.1 hf h1' hl' hg hg' he) h2
  ·simp only [Ctx.ren,if_neg h1] at hg;simp only [Ctx.ren,if_neg h1'] at hg';have hx:=jB hl;have hx':=jB hl';rw [hx.2] at hf;exact hi.inj i x i' x' g g' h3 hx.1 hf h3' hx'.1 hg hg' he
theorem cD.renB {d x:DB} (h:cD d x) (hl:(renB a b x).live=true):cD d (renB a b x):=by
 cases x with
 | dead=>simp [Dm.renB,DB.live] at hl
 | arr k es r=>exact h
 | mp es=>exact h
 | box cells =>
  cases d <;> simp only [cD] at h;simp only [Dm.renB] at hl ⊢;split
  ·exact True.intro
  ·rename_i hn;simp [hn,DB.live] at hl
theorem Step.ren {X0:Ctx} (hs:Step X0 X) (hab:a≠b) (h0:X0.h.length≤a) (h1:X0.h.length≤b):Step X0 (X.ren a b) where
 size:=hs.size
 os:=hs.os
 tape:=hs.tape
 output:=hs.output
 kept:=hs.kept
 len:=by simp only [Ctx.ren,jV];exact hs.len
 ids:=fun i db' hlt h hl=>by
  rcases gD hab h hl with ⟨rfl,_⟩|⟨g1,g2,x,g3,rfl⟩
  ·omega
  ·obtain ⟨db,k1,k2,k3,k4⟩:=hs.ids i x hlt g3 (jB hl).1;exact ⟨db,k1,k2.renB hl,by simp only [Ctx.ren,if_neg g1];exact k3,k4⟩
 frame:=hs.frame
 mine:=fun i db g h hl hf hg=>by
  rcases gD hab h hl with ⟨rfl,g1,_⟩|⟨g1,g2,x,g3,rfl⟩
  ·simp only [Ctx.ren,if_true] at hg;exact hs.mine b db g g1 hl hf hg
  ·simp only [Ctx.ren,if_neg g1] at hg;have hx:=jB hl;rw [hx.2] at hf;exact hs.mine i x g g3 hx.1 hf hg
 upper:=hs.upper
end
def DS.ren (s:DS) (a b:Nat):DS:=⟨s.n,vB a b s.t,zJ2 a b s.h⟩
def vH (n0:Nat) (s s':DS):Prop:=EC n0 s s'∨∃ a b kb eb,a≠b∧n0≤a∧n0≤b∧a<s.h.length∧s.h[b]? = some (.arr kb eb false)∧EC n0 (s.ren a b) s'
theorem vH.use {n0:Nat} {s s':DS} (h:vH n0 s s') {X0 X:Ctx} {a:Act} (hn:X0.h.length=n0) (hh:X.h=s.h) (hi:HInv X) (hs:Step X0 X) (ht:TInv X s a):∃ X',X'.w=X.w∧X'.h=s'.h∧HInv X'∧Step X0 X'∧TInv X' s' a:=by
 rcases h with h|⟨p,q,kb,eb,hab,h0,h1,hp,hq,h⟩
 ·exact h.use hn hh hi hs ht
 ·rw [← hh] at hp hq;refine h.use (X:=X.ren p q) hn ?_ (hi.ren hab hq hp) (hs.ren hab (by omega) (by omega)) ⟨ht.size,fun i=>?_,ht.defs⟩
  ·simp only [Ctx.ren,DS.ren,hh]
  ·simp only [DS.ren];rw [FW];exact (ht.rel i).ren hab hq hp
section
variable {P:Program} {T:Tab} {X0:Ctx} {c:Code} {Q:Exit→DS→Prop}
def uY {α:Type} (n0:Nat) (I:α→DS) (J:α→Prop) (μ:α→Nat) (x:α) (Q:Exit→DS→Prop):Exit→DS→Prop:=fun e s'=>match e with
 | .normal=>∃ y,J y∧μ y < μ x∧vH n0 s' (I y)
 | e=>Q e s'
theorem aY (hT:bD P T) (hm:P.follows .mixedOrders=true) {α:Type} (I:α→DS) (J:α→Prop) (μ:α→Nat) (x0:α) {s:DS} (hJ:J x0) (hw:vH X0.h.length s (I x0))
  (h:∀ x,J x→vc P T X0 c (I x) (uY X0.h.length I J μ x Q)):SWP P X0 (.loop c) s Q:=by
 intro gd X a hh hi hs ht;obtain ⟨X',h1,h2,h3,h4,h5⟩:=hw.use rfl hh hi hs ht;rw [← h1];refine wp_loop_ghost (fun n a w=>∃ x X,μ x=n∧J x∧X.w=w∧X.h=(I x).h∧HInv X∧Step X0 X∧TInv X (I x) a) (μ x0) ⟨x0,X',rfl,hJ,rfl,h2,h3,h4,h5⟩ ?_;rintro n a' w' ⟨x,Y,rfl,k1,rfl,k2,k3,k4,k5⟩;refine wp_mono (dG hT hm c (h x k1) gd Y a' k2 k3 k4 k5) fun e a w hp=>?_;obtain ⟨s',Z,p1,rfl,p3,p4,p5,p6⟩:=hp;cases e <;> simp only [Exit.then,uY] at p1 ⊢
 case normal =>
  obtain ⟨y,q1,q2,q3⟩:=p1;obtain ⟨Z',r1,r2,r3,r4,r5⟩:=q3.use rfl p3 p4 p5 p6;exact ⟨μ y,q2,y,Z',rfl,q1,r1,r2,r3,r4,r5⟩
 all_goals exact ⟨s',Z,p1,rfl,p3,p4,p5,p6⟩
theorem qr_e {α:Type} {n0:Nat} {I:α→DS} {J:α→Prop} {μ:α→Nat} {x:α} {id:Nat} {s:DS}:uY n0 I J μ x Q (.exit id) s=Q (.exit id) s:=nr rfl
theorem qr_r {α:Type} {n0:Nat} {I:α→DS} {J:α→Prop} {μ:α→Nat} {x:α} {s:DS}:uY n0 I J μ x Q .ret s=Q .ret s:=nr rfl
theorem fD {α:Type} {n0:Nat} {I:α→DS} {J:α→Prop} {μ:α→Nat} {x:α} {s:DS} (y:α) (h1:J y) (h2:μ y < μ x) (h3:EC n0 s (I y)):uY n0 I J μ x Q .normal s:=⟨y,h1,h2,.inl h3⟩
theorem gV {α:Type} {n0:Nat} {I:α→DS} {J:α→Prop} {μ:α→Nat} {x:α} {s:DS} (y:α) (a b:Nat) {kb:Nat} {eb:List (List PV)} (h1:J y) (h2:μ y < μ x) (hc:(!(Nat.beq a b) && Nat.ble n0 a && Nat.ble n0 b && Nat.blt a s.h.length)=true)
  (hb:s.h[b]? = some (.arr kb eb false)) (h3:EC n0 (s.ren a b) (I y)):uY n0 I J μ x Q .normal s:=by
 simp only [Bool.and_eq_true,Bool.not_eq_true'] at hc;refine ⟨y,h1,h2,.inr ⟨a,b,kb,eb,fun e=>?_,Nat.le_of_ble_eq_true hc.1.1.2,Nat.le_of_ble_eq_true hc.1.2,Nat.blt_eq.mp hc.2,hb,h3⟩⟩;have:=hc.1.1.1;subst e;rw [Nat.beq_refl] at this;cases this
end
theorem zAL (n:Nat):((n:Int)+1).toNat=n+1:=by omega
attribute [go_sem] zAL
attribute [go_sem] qr_e qr_r DS.ren vB tY vA tX renB zIu zJ2 zLZ
theorem sp {A B:Prop} (hb:B) (h:A=B:=by (simp (maxSteps:=1000000) only [*,go_sem,Nat.reduceLT,Nat.reduceLeDiff,Nat.reduceEqDiff,↓reduceIte,Nat.reduceAdd,Nat.reduceSub,Nat.reduceMul,Int.reduceLT,Int.reduceLE,Int.reduceAdd,Int.reduceSub,Int.reduceMul,Int.reduceNeg,Int.reduceToNat,Int.reduceEq,Int.reduceBEq,Int.reduceBNe,Nat.reduceBEq,beq_self_eq_true,bne_self_eq_false'];rfl)):A:=h.mpr hb
theorem sq {A B:Prop} (hb:B) (h:A=B:=by (simp (maxSteps:=1000000) only [*,go_sem,Nat.reduceLT,Nat.reduceLeDiff,Nat.reduceEqDiff,↓reduceIte,Nat.reduceAdd,Nat.reduceSub,Nat.reduceMul,Int.reduceLT,Int.reduceLE,Int.reduceAdd,Int.reduceSub,Int.reduceMul,Int.reduceNeg,Int.reduceToNat,Int.reduceEq,Int.reduceBEq,Int.reduceBNe,Nat.reduceBEq,beq_self_eq_true,bne_self_eq_false',Bool.not_true,Bool.not_false];rfl)):A:=h.mpr hb
theorem uF {P:Program} {f:FuncId} {args:List DV} {h:aC} {r:DV} {K:DV→aC→Prop} (hc:aA P f args [] fun d h'=>d=r∧h'=[]) (hk:K r h) (hp:gK h args=some args:=by exact rfl) (hfl:KN r=true:=by exact rfl):aA P f args h K:=dM hc hp hfl hk
theorem uN {P:Program} {f:FuncId} {args:List DV} {h:aC} {r:DV} {K:DV→aC→Prop} (hc:aA P f args [] fun d h'=>d=r∧h'=[]) (hk:K r (tK h (kF args))) (hp:gK h args=some args:=by exact rfl) (hsh:∀ n,r.sh n=r:=by exact fun _=>rfl):aA P f args h K:=kM hc hp hsh hk
end Go.Dm
end
end
