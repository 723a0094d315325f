/- Part 4 of the proof of roomKnown_card. No condition. -/
import Derived.Test.YtbpblnmhlhpebaaGreatDoorB02
import Derived.LoopN
set_option linter.all false
section
section
namespace Go.Dm
open Go
def vc (P:Program) (T:Tab) (X0:Ctx):Code→DS→(Exit→DS→Prop)→Prop
 | .skip,s,Q=>Q .normal s
 | .ret,s,Q=>Q .ret s
 | .exit id,s,Q=>Q (.exit id) s
 | .seq x y,s,Q=>vc P T X0 x s fun e s'=>match e with
  | .normal=>vc P T X0 y s' Q
  | e=>Q e s'
 | .block id c,s,Q=>vc P T X0 c s (rO id Q)
 | .cond c x y,s,Q=>match evD s.t c with
  | .c (.p (.b t))=>(t=true→vc P T X0 x s Q)∧(t=false→vc P T X0 y s Q)
  | _=>False
 | .region _ ops false,s,Q=>oM P T ops ops.toList s (Q .normal)
 | c,s,Q=>SWP P X0 c s Q
theorem eB {P:Program} {T:Tab} {X0:Ctx} (hT:bT P T) (hm:P.follows .mixedOrders=true):∀ (c:Code) {s:DS} {Q:Exit→DS→Prop},vc P T X0 c s Q→SWP P X0 c s Q
 | .skip,s,Q,h=>zEL h
 | .ret,s,Q,h=>zIc h
 | .exit id,s,Q,h=>zE1 h
 | .seq x y,s,Q,h=>FP (gH (eB hT hm x h) fun e s' hq=>by
   cases e <;> simp only at hq ⊢
   case normal=>exact eB hT hm y hq
   all_goals exact hq)
 | .block id c,s,Q,h=>KY (gH (eB hT hm c h) fun e s' hq=>by
   cases e <;> simp only [rO] at hq ⊢ <;> exact hq)
 | .cond c x y,s,Q,h=>by
   simp only [vc] at h
   split at h
   ·rename_i t ht
    exact zEj ht (fun e=>eB hT hm x (h.1 e)) (fun e=>eB hT hm y (h.2 e))
   ·exact h.elim
 | .region id ops false,s,Q,h=>VP hT h
 | .region id ops true,s,Q,h=>h
 | .loop c,s,Q,h=>h
 | .rangeFunc _ _ _ _,s,Q,h=>h
 | .scope _,s,Q,h=>h
 | .label _,s,Q,h=>h
 | .goto _,s,Q,h=>h
 | .refuse _,s,Q,h=>h
def zHh (n:Nat) (h:aC) (d:DV) (R:DV→aC→Prop):Prop :=
 match zDV h d with
 | some d'=>((sP h (zIr d)).take n).all (bV n)=true∧R d' ((sP h (zIr d)).take n)
 | none=>False
theorem zHh.fin {n:Nat} {h:aC} {d:DV} {R:DV→aC→Prop} (hf:zHh n h d R):Fin n h d R:=by
 unfold zHh at hf
 split at hf
 ·rename_i d' hd
  exact .inr (.inl ⟨d',hd,hf.1,hf.2⟩)
 ·exact hf.elim
def VF (T:Tab) (n:Nat) (t:Fr) (h:aC) (R:DV→aC→Prop):List ResultVar→List EV→Prop
 | [],es=>zHh n h (DQ es.reverse) R
 | .tmp i::rs,es =>
  match look t i with
  | .c x=>VF T n t h R rs (.c x::es)
  | .agg xs=>VF T n t h R rs (.agg xs::es)
  | _=>False
 | .cell a ty::rs,es=>(T ty).size≠0∧tE (T ty) h (look t a) fun d =>
  match d with
  | .c x=>VF T n t h R rs (.c x::es)
  | .agg xs=>VF T n t h R rs (.agg xs::es)
  | _=>False
def WV (T:Tab) (n:Nat) (rs:List ResultVar) (R:DV→aC→Prop):Exit→DS→Prop
 | .normal,s=>VF T n s.t s.h R rs []
 | .ret,s=>VF T n s.t s.h R rs []
 | _,_=>False
theorem BN {T:TI} {h:aC} {a:DV} {K K':DV→Prop} (hk:∀ d,K d→K' d) (hd:tE T h a K):tE T h a K':=by
 unfold tE at hd ⊢
 revert hd
 split
 ·split
  ·split
   ·exact fun h=>⟨h.1,hk _ h.2⟩
   ·split
    ·exact fun h=>hk _ h
    ·exact fun h=>h
  ·exact fun h=>h
 ·split
  ·split
   ·exact fun h=>⟨h.1,h.2.1,hk _ h.2.2⟩
   ·exact fun h=>⟨h.1,h.2.1,hk _ h.2.2⟩
  ·exact fun h=>h
 ·split
  ·exact fun h=>⟨h.1,hk _ h.2⟩
  ·split
   ·exact fun h=>hk _ h
   ·exact fun h=>h
 ·exact fun h=>h
theorem lC {T:Tab} {n:Nat} {s:DS} {R:DV→aC→Prop}:∀ (rs:List ResultVar) (es:List EV) {K:List EV→Prop},(∀ l,zHh n s.h (DQ (es.reverse++l)) R→K l)→VF T n s.t s.h R rs es→mC T s rs K
 | [],es,K,hk,h=>hk [] (by simpa [VF] using h)
 | .tmp i::rs,es,K,hk,h=>by
  simp only [VF,mC] at h ⊢
  generalize look s.t i=d at h ⊢
  cases d <;> simp only at h ⊢
  ·exact lC rs _ (fun l hl=>hk _ (by simpa using hl)) h
  ·exact lC rs _ (fun l hl=>hk _ (by simpa using hl)) h
 | .cell a ty::rs,es,K,hk,h=>by
  simp only [VF,mC] at h ⊢
  refine ⟨h.1,BN (fun d hd=>?_) h.2⟩
  cases d <;> simp only at hd ⊢
  ·exact lC rs _ (fun l hl=>hk _ (by simpa using hl)) hd
  ·exact lC rs _ (fun l hl=>hk _ (by simpa using hl)) hd
theorem zO {T:Tab} {n:Nat} {rs:List ResultVar} {R:DV→aC→Prop} {e:Exit} {s:DS} (h:WV T n rs R e s):dpost T n rs R e s:=by
 cases e <;> simp only [WV,dpost] at h ⊢
 case normal=>exact lC rs [] (fun l hl=>zHh.fin (by simpa using hl)) h
 case ret=>exact lC rs [] (fun l hl=>zHh.fin (by simpa using hl)) h
def lO:Nat→List DV→Fr
 | _,[]=>[]
 | i,d::l=>(i,d)::lO (i+1) l
theorem gT:∀ (l:List DV) (i:Nat),(l.zipIdx i).map (fun p=>(p.2,p.1))=lO i l
 | [],_=>rfl
 | d::l,i=>by simp only [List.zipIdx_cons,List.map_cons,lO,gT l]
theorem ent {P:Program} {T:Tab} (hT:bT P T) (hm:P.follows .mixedOrders=true) {f:FuncId} {fn:Func} {c:Code} {args:List DV} {h:aC} {R:DV→aC→Prop} (hf:P.funcs[f]? = some fn) (hb:fn.body=some c)
  (hc:(Nat.ble args.length fn.ntmps && !(fn.name == "runtime.NumGoroutine"))=true)
  (hs:∀ X0:Ctx,X0.h=h→vc P T X0 c ⟨fn.ntmps,lO 0 args,h⟩ (WV T h.length fn.results.toList R)):aA P f args h R:=by
 simp only [Bool.and_eq_true,Bool.not_eq_true'] at hc
 refine gI hT hf hb (Nat.le_of_ble_eq_true hc.1) hc.2 fun X0 hX=>?_
 rw [gT]
 exact gH (eB hT hm c (hs X0 hX)) fun e s=>zO
end Go.Dm
end
section
namespace Go.Dm
open Go
section
variable {P:Program} {T:Tab} {X0:Ctx}
inductive Later (p:Prop):Prop where
 | mk (h:p):Later p
theorem qM (p:Prop):Later p=p:=propext ⟨fun ⟨h⟩=>h,.mk⟩
theorem nr {α:Sort _} {a b:α} (h:a=b):a=b:=h
def vsq (P:Program) (T:Tab) (X0:Ctx) (y:Code) (Q:Exit→DS→Prop):Exit→DS→Prop:=fun e s'=>match e with
 | .normal=>Later (vc P T X0 y s' Q)
 | e=>Q e s'
def XK (P:Program) (T:Tab) (X0:Ctx) (d:DV) (x y:Code) (s:DS) (Q:Exit→DS→Prop):Prop :=
 match d with
 | .c (.p (.b t))=>(t=true→vc P T X0 x s Q)∧(t=false→vc P T X0 y s Q)
 | _=>False
def zKT (P:Program) (T:Tab) (ops:Array Oper) (rest:List Oper) (n:Nat) (t:Fr) (dst:Option Tmp) (K:DS→Prop):DV→aC→Prop:=fun d h'=>Later (oM P T ops rest (DS.put ⟨n,t,h'⟩ dst d h') K)
theorem EM {P:Program} {T:Tab} {ops:Array Oper} {rest:List Oper} {n:Nat} {t:Fr} {dst:Option Tmp} {K:DS→Prop}:zKT P T ops rest n t dst K=fun d h'=>oM P T ops rest (DS.put ⟨n,t,h'⟩ dst d h') K:=by
 funext d h';exact qM _
def kP (K:DV→aC→Prop) (h:aC):PV→Prop:=fun x=>K (.c (.p x)) h
def kD (K:DV→aC→Prop) (h:aC):DV→Prop:=fun d=>K d h
def kB (K:PV→Prop):Bool→Prop:=fun b=>K (.b b)
def kN (K:PV→Prop):Bool→Prop:=fun b=>K (.b (!b))
def kU (K:DV→aC→Prop):aC→Prop:=fun h=>K (.tup []) h
def XZ (t:Fr):List Oper→Nat→Option DV
 | [],_=>none
 | o::_,0=>o.dst.map fun i=>look t i
 | _::l,j+1=>XZ t l j
def lL (P:Program) (T:Tab) (ops:Array Oper) (g:Option DV) (b:Bool) (op:Op) (t:Fr) (h:aC) (K:DV→aC→Prop):Prop :=
 match g with
 | some (.c (.p (.b v)))=>(v=b→dop P T op t h K)∧(v≠b→K (.tup []) h)
 | some (.tup [])=>K (.tup []) h
 | _=>False
def QF (d:DV) (a b:DV) (h:aC) (K:DV→aC→Prop):Prop :=
 match d with
 | .c (.p (.b v))=>(v=true→K a h)∧(v=false→K b h)
 | _=>False
theorem zIL {s:DS} {Q:Exit→DS→Prop}:vc P T X0 .skip s Q=Q .normal s:=nr rfl
theorem zJJ {s:DS} {Q:Exit→DS→Prop}:vc P T X0 .ret s Q=Q .ret s:=nr rfl
theorem zHI {id:Nat} {s:DS} {Q:Exit→DS→Prop}:vc P T X0 (.exit id) s Q=Q (.exit id) s:=nr rfl
theorem zKc {x y:Code} {s:DS} {Q:Exit→DS→Prop}:vc P T X0 (.seq x y) s Q=vc P T X0 x s (vsq P T X0 y Q):=by
 have e:vsq P T X0 y Q=fun e s'=>match e with
   | .normal=>vc P T X0 y s' Q
   | e=>Q e s':=by
  funext e s'
  cases e <;> first|rfl|exact qM _
 rw [e];rfl
theorem zFF {id:Nat} {c:Code} {s:DS} {Q:Exit→DS→Prop}:vc P T X0 (.block id c) s Q=vc P T X0 c s (rO id Q):=nr rfl
theorem zHH {c:Operand} {x y:Code} {s:DS} {Q:Exit→DS→Prop}:vc P T X0 (.cond c x y) s Q=XK P T X0 (evD s.t c) x y s Q:=nr rfl
theorem zC7 {id:Nat} {l:List Oper} {s:DS} {Q:Exit→DS→Prop}:vc P T X0 (.region id l.toArray false) s Q=oM P T l.toArray l s (Q .normal):=nr rfl
theorem zHX {c:Code} {s:DS} {Q:Exit→DS→Prop}:vc P T X0 (.loop c) s Q=SWP P X0 (.loop c) s Q:=nr rfl
theorem zLx {y:Code} {s:DS} {Q:Exit→DS→Prop}:vsq P T X0 y Q .normal s=vc P T X0 y s Q:=qM _
theorem zLv {y:Code} {s:DS} {Q:Exit→DS→Prop}:vsq P T X0 y Q .ret s=Q .ret s:=nr rfl
theorem zLq {y:Code} {id:Nat} {s:DS} {Q:Exit→DS→Prop}:vsq P T X0 y Q (.exit id) s=Q (.exit id) s:=nr rfl
theorem qb_n {id:Nat} {s:DS} {Q:Exit→DS→Prop}:rO id Q .normal s=Q .normal s:=nr rfl
theorem qb_r {id:Nat} {s:DS} {Q:Exit→DS→Prop}:rO id Q .ret s=Q .ret s:=nr rfl
theorem qb_e {id id':Nat} {s:DS} {Q:Exit→DS→Prop}:rO id Q (.exit id') s=if id'=id then Q .normal s else Q (.exit id') s:=nr rfl
theorem ql_e {α:Type} {n0:Nat} {I:α→DS} {J:α→Prop} {μ:α→Nat} {x:α} {id:Nat} {s:DS} {Q:Exit→DS→Prop}:zKO n0 I J μ x Q (.exit id) s=Q (.exit id) s:=nr rfl
theorem ql_r {α:Type} {n0:Nat} {I:α→DS} {J:α→Prop} {μ:α→Nat} {x:α} {s:DS} {Q:Exit→DS→Prop}:zKO n0 I J μ x Q .ret s=Q .ret s:=nr rfl
theorem zHv {n:Nat} {rs:List ResultVar} {R:DV→aC→Prop} {s:DS}:WV T n rs R .normal s=VF T n s.t s.h R rs []:=nr rfl
theorem zIU {n:Nat} {rs:List ResultVar} {R:DV→aC→Prop} {s:DS}:WV T n rs R .ret s=VF T n s.t s.h R rs []:=nr rfl
theorem zI2 {x y:Code} {s:DS} {Q:Exit→DS→Prop}:XK P T X0 (.c (.p (.b true))) x y s Q=vc P T X0 x s Q:=by simp [XK]
theorem zJq {x y:Code} {s:DS} {Q:Exit→DS→Prop}:XK P T X0 (.c (.p (.b false))) x y s Q=vc P T X0 y s Q:=by simp [XK]
theorem aU {t:Bool} {x y:Code} {s:DS} {Q:Exit→DS→Prop} (h1:t=true→vc P T X0 x s Q) (h2:t=false→vc P T X0 y s Q):XK P T X0 (.c (.p (.b t))) x y s Q:=⟨h1,h2⟩
theorem zKA {ops:Array Oper} {s:DS} {K:DS→Prop}:oM P T ops [] s K=K s:=nr rfl
theorem zKx {ops:Array Oper} {dst:Option Tmp} {op:Op} {ty:TypeId} {pos:String} {after:Array Edge} {rest:List Oper} {n:Nat} {t:Fr} {h:aC} {K:DS→Prop}:
  oM P T ops ({ dst:=dst,op:=op,type:=ty,pos:=pos,after:=after,guard:=none }::rest) ⟨n,t,h⟩ K=dop P T op t h (zKT P T ops rest n t dst K):=by rw [EM];rfl
theorem zE2 {l:List Oper} {dst:Option Tmp} {op:Op} {ty:TypeId} {pos:String} {after:Array Edge} {rest:List Oper} {j:Nat} {b:Bool} {n:Nat} {t:Fr} {h:aC} {K:DS→Prop}:
  oM P T l.toArray ({ dst:=dst,op:=op,type:=ty,pos:=pos,after:=after,guard:=some (j,b) }::rest) ⟨n,t,h⟩ K=lL P T l.toArray (XZ t l j) b op t h (zKT P T l.toArray rest n t dst K):=by
 have e:∀ (l:List Oper) (j:Nat),((l[j]?).bind (·.dst)).map (fun i=>look t i)=XZ t l j:=by
  intro l
  induction l with
  | nil=>intro j;rfl
  | cons o l ih=>intro j;cases j with
   | zero=>rfl
   | succ j=>exact ih j
 rw [EM]
 simp only [oM,List.getElem?_toArray,e]
 rfl
theorem zHU {t:Fr} {o:Oper} {l:List Oper}:XZ t (o::l) 0=o.dst.map fun i=>look t i:=nr rfl
theorem zH1 {t:Fr} {o:Oper} {l:List Oper} {j:Nat}:XZ t (o::l) (j+1)=XZ t l j:=nr rfl
theorem zBz {ops:Array Oper} {rest:List Oper} {n:Nat} {t:Fr} {i:Nat} {K:DS→Prop} {d:DV} {h:aC} (hi:i<n):zKT P T ops rest n t (some i) K d h=oM P T ops rest ⟨n,(i,d)::t,h⟩ K:=by
 rw [EM];simp only [DS.put];rw [if_pos hi]
theorem zCU {ops:Array Oper} {rest:List Oper} {n:Nat} {t:Fr} {K:DS→Prop} {d:DV} {h:aC}:zKT P T ops rest n t none K d h=oM P T ops rest ⟨n,t,h⟩ K:=by rw [EM];rfl
theorem zLV {K:DV→aC→Prop} {h:aC} {x:PV}:kP K h x=K (.c (.p x)) h:=nr rfl
theorem zLw {K:DV→aC→Prop} {h:aC} {d:DV}:kD K h d=K d h:=nr rfl
theorem zMc {K:PV→Prop} {b:Bool}:kB K b=K (.b b):=nr rfl
theorem zL5 {K:PV→Prop} {b:Bool}:kN K b=K (.b (!b)):=nr rfl
theorem zLI {K:DV→aC→Prop} {h:aC}:kU K h=K (.tup []) h:=nr rfl
section g
variable {ops:Array Oper} {op:Op} {t:Fr} {h:aC} {K:DV→aC→Prop}
theorem zMb:lL P T ops (some (.c (.p (.b true)))) true op t h K=dop P T op t h K:=by simp [lL]
theorem zLG:lL P T ops (some (.c (.p (.b false)))) false op t h K=dop P T op t h K:=by simp [lL]
theorem zLT:lL P T ops (some (.c (.p (.b true)))) false op t h K=K (.tup []) h:=by simp [lL]
theorem zLC:lL P T ops (some (.c (.p (.b false)))) true op t h K=K (.tup []) h:=by simp [lL]
theorem zJ8 {b:Bool}:lL P T ops (some (.tup [])) b op t h K=K (.tup []) h:=nr rfl
theorem bR {v b:Bool} (h1:v=true→lL P T ops (some (.c (.p (.b v)))) b op t h K) (h2:v=false→lL P T ops (some (.c (.p (.b v)))) b op t h K):lL P T ops (some (.c (.p (.b v)))) b op t h K:=by
 cases v
 ·exact h2 rfl
 ·exact h1 rfl
theorem vp_t {a b:DV}:QF (.c (.p (.b true))) a b h K=K a h:=by simp [QF]
theorem vp_f {a b:DV}:QF (.c (.p (.b false))) a b h K=K b h:=by simp [QF]
theorem vp_b {v x y:Bool}:QF (.c (.p (.b v))) (.c (.p (.b x))) (.c (.p (.b y))) h K=K (.c (.p (.b (bif v then x else y)))) h:=by cases v <;> simp [QF]
theorem zH4 {x:Operand}:dop P T (.move x) t h K=K (evD t x) h:=nr rfl
theorem zAj {x:Operand}:dop P T (.assign x) t h K=K (evD t x) h:=nr rfl
theorem zIP {c a b:Operand}:dop P T (.pick c a b) t h K=QF (evD t c) (evD t a) (evD t b) h K:=nr rfl
def zCn (k:TK) (z:List PV) (h:aC) (K:DV→aC→Prop):Prop :=
 match k with
 | .no=>False
 | _=>K (.c (.ptr h.length 0)) (h++[.box (z.map .p)])
theorem zGa {ty:TypeId}:dop P T (.alloc ty) t h K=zCn (T ty).k (T ty).zero h K:=nr rfl
def zMl (o:Option (List CV)) (h:aC) (K:DV→aC→Prop):Prop :=
 match o with
 | some ys=>K (.c (.ptr h.length 0)) (h++[.box ys])
 | none=>False
theorem zKB {ty:TypeId} {x:Operand}:dop P T (.box ty x) t h K=zMl (cellsD (evD t x)) h K:=nr rfl
def zJu (t:Fr):List (Nat × Operand)→List (Nat × DV)
 | []=>[]
 | p::l=>(p.1,evD t p.2)::zJu t l
theorem NK (t:Fr):∀ l:List (Nat × Operand),(l.map fun p=>(p.1,evD t p.2))=zJu t l
 | []=>rfl
 | p::l=>by simp only [List.map_cons,zJu,NK t l]
def evL (t:Fr):List Operand→List DV
 | []=>[]
 | x::l=>evD t x::evL t l
theorem KE (t:Fr):∀ l:List Operand,l.map (evD t)=evL t l
 | []=>rfl
 | x::l=>by simp only [List.map_cons,evL,KE t l]
def ZU (T:Tab) (k:TK) (z:List PV) (parts:List (Nat × DV)) (h:aC) (K:DV→aC→Prop):Prop :=
 match k with
 | .struct fs=>(∀ f∈fs,(T f.1).size≠0) ∧
  match vD T (fun i=>(fs[i]?).map fun f=>(f.2,(T f.1).size)) (z.map .p) parts with
  | some cells=>K (.agg cells) h
  | none=>False
 | .array _ e=>(T e).size≠0 ∧
  match vD T (fun i=>some (i*(T e).size,(T e).size)) (z.map .p) parts with
  | some cells=>K (.agg cells) h
  | none=>False
 | _=>False
theorem zGy {ty:TypeId} {l:List (Nat × Operand)}:dop P T (.build ty l.toArray) t h K=ZU T (T ty).k (T ty).zero (zJu t l) h K:=by
 rw [← NK];rfl
def MH (T:Tab) (place:List (Nat × Nat)):List CV→List (Nat × DV)→Option (List CV)
 | cells,[]=>some cells
 | cells,(i,d)::rest =>
  match place[i]?,cellsD d with
  | some (ft,off),some ys=>if ys.length=(T ft).size∧off+(T ft).size≤cells.length then MH T place (splice cells off ys) rest else none
  | _,_=>none
theorem KP (T:Tab) (fs:List (Nat × Nat)):∀ (parts:List (Nat × DV)) (cells:List CV),vD T (fun i=>(fs[i]?).map fun f=>(f.2,(T f.1).size)) cells parts=MH T fs cells parts
 | [],_=>rfl
 | (i,d)::rest,cells=>by
  simp only [vD,MH]
  cases fs[i]? with
  | none=>rfl
  | some f =>
   cases cellsD d with
   | none=>rfl
   | some ys=>simp only [Option.map_some];rw [KP T fs rest _]
def LW (sz:Nat):List CV→List (Nat × DV)→Option (List CV)
 | cells,[]=>some cells
 | cells,(i,d)::rest =>
  match cellsD d with
  | some ys=>if ys.length=sz∧i*sz+sz≤cells.length then LW sz (splice cells (i*sz) ys) rest else none
  | _=>none
theorem LY (T:Tab) (sz:Nat):∀ (parts:List (Nat × DV)) (cells:List CV),vD T (fun i=>some (i*sz,sz)) cells parts=LW sz cells parts
 | [],_=>rfl
 | (i,d)::rest,cells=>by
  simp only [vD,LW]
  cases cellsD d with
  | none=>rfl
  | some ys=>simp only;rw [LY T sz rest _]
def zMd (o:Option (List CV)) (h:aC) (K:DV→aC→Prop):Prop :=
 match o with
 | some cells=>K (.agg cells) h
 | none=>False
theorem zBK {cells:List CV}:zMd (some cells) h K=K (.agg cells) h:=nr rfl
theorem zBp {fs:List (Nat × Nat)} {z:List PV} {parts:List (Nat × DV)}:ZU T (.struct fs) z parts h K=((∀ f∈fs,(T f.1).size≠0)∧zMd (MH T fs (z.map .p) parts) h K):=by
 rw [← KP];rfl
theorem zFD {n e:Nat} {z:List PV} {parts:List (Nat × DV)}:ZU T (.array n e) z parts h K=((T e).size≠0∧zMd (LW (T e).size (z.map .p) parts) h K):=by
 rw [← LY T];rfl
theorem zAp {ty:TypeId} {len:Nat} {l:List (Nat × Operand)}:dop P T (.buildSlice ty len l.toArray) t h K=zA T ty len (zJu t l) h K:=by
 rw [← NK];rfl
theorem zH7 {ty:TypeId} {a:Operand}:dop P T (.load ty a) t h K=((T ty).size≠0∧tE (T ty) h (evD t a) (kD K h)):=nr rfl
theorem zFO {ty:TypeId} {m x:Operand} {ok:Bool}:dop P T (.lookup ty m x ok) t h K=ZN T (T ty).k h (evD t m) (evD t x) ok (kD K h):=nr rfl
theorem zHF {ty:TypeId} {m x v:Operand}:dop P T (.mapUpdate ty m x v) t h K=zCF T (T ty).k h (evD t m) (evD t x) (evD t v) (kU K):=nr rfl
theorem zEf {ty:TypeId}:dop P T (.makeMap ty none) t h K=KN (T ty).k h K:=nr rfl
theorem zF9 {ty:TypeId} {a x:Operand}:dop P T (.store ty a x) t h K=JP (T ty) h (evD t a) (evD t x) (kU K):=nr rfl
def zKh (d:DV) (h:aC) (K:DV→aC→Prop):Prop :=
 match d with
 | .c (.ptr id off) =>
  match h[id]? with
  | some (.box _)=>K (.c (.ptr id off)) h
  | _=>False
 | .c (.eptr cs)=>K (.c (.eptr cs)) h
 | .c (.clo f cap)=>K (.c (.clo f cap)) h
 | _=>False
theorem zHD {x:Operand}:dop P T (.nilCheck x) t h K=zKh (evD t x) h K:=nr rfl
def zIB (P:Program) (ty:TypeId) (k:TI) (h:aC) (o:BinOp) (x y:DV) (K:DV→aC→Prop):Prop :=
 match zLi o x y with
 | some (id,b)=>zJv k.k (h[id]?) b h K
 | none=>MY o k x y (kP K h)∨zKU P o ty x y (kP K h)
theorem zK3 {o:BinOp} {ty ty':TypeId} {x y:Operand}:dop P T (.binOp o ty x y ty') t h K=zIB P ty (T ty) h o (evD t x) (evD t y) K:=nr rfl
theorem zHg {o:BinOp} {ty:TypeId} {x:CV} {y:DV} {K:PV→Prop}:zKU P o ty (.c x) y K=False:=by
 refine eq_false ?_
 rintro ⟨xs,ys,b,h,_⟩
 cases h
theorem zKJ {ty:TypeId} {k:TI} {h:aC} {o:BinOp} {x y:PV} {K:DV→aC→Prop}:zIB P ty k h o (.c (.p x)) (.c (.p y)) K=MY o k (.c (.p x)) (.c (.p y)) (kP K h):=by
 have e:zIB P ty k h o (.c (.p x)) (.c (.p y)) K=(MY o k (.c (.p x)) (.c (.p y)) (kP K h)∨zKU P o ty (.c (.p x)) (.c (.p y)) (kP K h)):=by cases o <;> exact nr rfl
 rw [e,zHg,or_false]
theorem zK6 {ty:TypeId} {k:TI} {h:aC} {o:BinOp} {id off len:Nat} {y:PV} {K:DV→aC→Prop}:zIB P ty k h o (.c (.own id off len)) (.c (.p y)) K=MY o k (.c (.own id off len)) (.c (.p y)) (kP K h):=by
 have e:zIB P ty k h o (.c (.own id off len)) (.c (.p y)) K=(MY o k (.c (.own id off len)) (.c (.p y)) (kP K h)∨zKU P o ty (.c (.own id off len)) (.c (.p y)) (kP K h)):=by cases o <;> exact nr rfl
 rw [e,zHg,or_false]
theorem zKE {ty:TypeId} {k:TI} {h:aC} {id off:Nat} {K:DV→aC→Prop}:zIB P ty k h .eql (.c (.ptr id off)) (.c (.p (.o (.pointer none)))) K=zJv k.k (h[id]?) false h K:=nr rfl
theorem zK1 {ty:TypeId} {k:TI} {h:aC} {id off:Nat} {K:DV→aC→Prop}:zIB P ty k h .neq (.c (.ptr id off)) (.c (.p (.o (.pointer none)))) K=zJv k.k (h[id]?) true h K:=nr rfl
theorem zKQ {e:Nat} {c:List CV} {b:Bool} {h:aC} {K:DV→aC→Prop}:zJv (.ptr e) (some (.box c)) b h K=K (.c (.p (.b b))) h:=nr rfl
theorem zFy {j a b id:Nat}:TF (.c (.own j a b)) id=(j == id):=nr rfl
theorem zEu {x:PV} {id:Nat}:TF (.c (.p x)) id=false:=nr rfl
attribute [go_sem] zKJ zK6 zKE zK1 zKQ zFy zEu
theorem zLH {o:UnOp} {ty:TypeId} {x:Operand}:dop P T (.unOp o ty x) t h K=dun o (evD t x) (kP K h):=nr rfl
theorem zIb {src dst:TypeId} {x:Operand}:dop P T (.convert src dst x) t h K=zA1 T src dst (evD t x) h K:=nr rfl
def FH (t:Fr) (o:Option Operand) (d:Int):Option Int :=
 match o with
 | none=>some d
 | some x=>match evD t x with
  | .c (.p (.i _ n))=>some n
  | _=>none
def zDN (T:Tab) (k:TK) (h:aC) (x:DV) (lo hi:Int→Option Int) (K:DV→aC→Prop):Prop :=
 match k,x with
 | .str,.c (.p (.s l))=>match lo 0,hi l.length with
  | some a,some b=>0≤a∧a≤b∧b≤l.length∧K (.c (.p (.s ((l.take b.toNat).drop a.toNat)))) h
  | _,_=>False
 | .slice e,.c (.p (.sl k es))=>match lo 0,hi es.length with
  | some a,some b=>(T e).size≠0∧(T e).size=k∧0≤a∧a≤b∧b≤es.length∧K (.c (.p (.sl k ((es.take b.toNat).drop a.toNat)))) h
  | _,_=>False
 | .slice e,.c (.p .nil)=>match lo 0,hi 0 with
  | some a,some b=>(T e).size≠0∧0≤a∧a≤b∧b≤0∧K (.c (.p .nil)) h
  | _,_=>False
 | .slice e,.c (.own id off len) =>
  match h[id]? with
  | some (.arr k _ _)=>match lo 0,hi len with
   | some a,some b=>(T e).size≠0∧(T e).size=k∧0≤a∧a≤b∧b≤len∧K (.c (.own id (off+a.toNat) (b.toNat-a.toNat))) h
   | _,_=>False
  | _=>False
 | _,_=>False
theorem zGY (t:Fr) (o:Option Operand) (d:Int) (K:Int→Prop):bnd t o d K=match FH t o d with|some n=>K n|none=>False:=by
 cases o with
 | none=>rfl
 | some x =>
  simp only [bnd,FH]
  generalize evD t x=e
  cases e with
  | c c=>cases c with
   | p p=>cases p <;> rfl
   | _=>rfl
  | _=>rfl
def zJt (T:Tab) (k:TK) (h:aC) (x:DV) (lo hi mx:Int→Option Int) (K:DV→aC→Prop):Prop :=
 match k,x with
 | .slice e,.c (.p (.sl k es))=>match lo 0,hi (-1),mx (-1) with
  | some a,some b,some c=>(T e).size≠0∧(T e).size=k∧a=0∧b=c∧0≤b∧b≤es.length∧K (.c (.full k (es.take b.toNat))) h
  | _,_,_=>False
 | _,_=>False
theorem zHE {ty:TypeId} {x mx:Operand} {lo hi:Option Operand}:dop P T (.slice ty x lo hi (some mx)) t h K=zJt T (T ty).k h (evD t x) (FH t lo) (FH t hi) (FH t (some mx)) K:=by
 show zDn T ty (evD t x) (bnd t lo) (bnd t hi) (bnd t (some mx)) (fun d=>K d h)=_
 unfold zDn zJt
 simp only [zGY]
 generalize (T ty).k=k
 generalize evD t x=d
 cases k with
 | slice e=>cases d with
  | c c=>cases c with
   | p p=>cases p with
    | sl k es =>
     simp only
     cases FH t lo 0 <;> simp only [and_false]
     cases FH t hi (-1) <;> simp only [and_false]
     cases FH t (some mx) (-1) <;> simp only [and_false]
    | _=>rfl
   | _=>rfl
  | _=>rfl
 | _=>rfl
theorem zGJ {ty:TypeId} {x:Operand} {lo hi:Option Operand}:dop P T (.slice ty x lo hi none) t h K=zDN T (T ty).k h (evD t x) (FH t lo) (FH t hi) K:=by
 show KM T ty h (evD t x) (bnd t lo) (bnd t hi) (fun d=>K d h)=_
 unfold KM zDN
 simp only [zGY]
 generalize (T ty).k=k
 generalize evD t x=d
 cases k with
 | str=>cases d with
  | c c=>cases c with
   | p p=>cases p with
    | s l =>
     simp only
     cases FH t lo 0 <;> simp only
     cases FH t hi (l.length:Int) <;> rfl
    | _=>rfl
   | _=>rfl
  | _=>rfl
 | slice e=>cases d with
  | c c=>cases c with
   | p p=>cases p with
    | nil =>
     simp only
     cases FH t lo 0 <;> simp only [and_false]
     cases FH t hi 0 <;> simp only [and_false]
    | sl k es =>
     simp only
     cases FH t lo 0 <;> simp only [and_false]
     cases FH t hi (es.length:Int) <;> simp only [and_false]
    | _=>rfl
   | own id off len =>
    simp only
    cases h[id]? with
    | none=>rfl
    | some b=>cases b with
     | arr k es r =>
      simp only
      cases FH t lo 0 <;> simp only [and_false]
      cases FH t hi (len:Int) <;> simp only [and_false]
     | _=>rfl
   | _=>rfl
  | _=>rfl
 | _=>rfl
theorem zDW {s f:Nat} {x:Operand}:dop P T (.fieldAddr s x f) t h K=HU T s h (evD t x) f (kD K h):=nr rfl
def zGX (T:Tab) (k:TK) (x:DV) (f:Nat) (K:DV→Prop):Prop :=
 match k,x with
 | .struct fs,.agg cells =>
  match fs[f]? with
  | some (ft,off)=>zAr (T ft) cells off K
  | none=>False
 | _,_=>False
theorem zGA {ty f:Nat} {x:Operand}:dop P T (.field ty x f) t h K=zGX T (T ty).k (evD t x) f (kD K h):=nr rfl
theorem zCE {ty:Nat} {x i:Operand}:dop P T (.indexAddr ty x i) t h K=xY T ty h (evD t x) (evD t i) (kD K h):=nr rfl
theorem zFp {ty:Nat} {x i:Operand}:dop P T (.index ty x i) t h K=JY T ty (evD t x) (evD t i) (kD K h):=nr rfl
def RV (d:DV) (n:Nat) (h:aC) (K:DV→aC→Prop):Prop :=
 match d with
 | .tup xs =>
  match xs[n]? with
  | some e=>K e.toDV h
  | none=>False
 | _=>False
theorem ZD {x:Operand} {n:Nat}:dop P T (.extract x n) t h K=RV (evD t x) n h K:=nr rfl
def zL6 (f:FuncId) (c:Option (List KV)) (h:aC) (K:DV→aC→Prop):Prop :=
 match c with
 | some cap=>K (.c (.clo f cap)) h
 | none=>False
theorem zH2 {f:FuncId} {l:List Operand}:dop P T (.makeFunc (.func f) #[] l.toArray) t h K=zL6 f (FN (evL t l)) h K:=by
 rw [← KE]
 simp only [dop,zL6]
 cases FN (List.map (evD t) l) <;> rfl
theorem zJj {ty:Nat} {l c:Operand}:dop P T (.makeSlice ty l c) t h K=zDs T ty (evD t l) (evD t c) h K:=nr rfl
def zKS (P:Program) (d:DV) (args:List DV) (h:aC) (K:DV→aC→Prop):Prop :=
 match d with
 | .c (.clo g cap)=>aA P g (args++cap.map KV.toDV) h K
 | _=>False
theorem zHL {f:Operand} {l:List Operand} {ats:Array TypeId}:dop P T (.call { callee:=.value f,args:=l.toArray,argTypes:=ats }) t h K=zKS P (evD t f) (evL t l) h K:=by
 rw [← KE]
 simp only [dop]
 rfl
theorem zKR {ty:Nat} {tys:List Nat} {x:Operand}:dop P T (.call { callee:=.builtin .len,args:=[x].toArray,argTypes:=(ty::tys).toArray }) t h K=dlen (T ty) h (evD t x) (kD K h):=by
 simp only [dop]
 rfl
theorem zB2 {ty tu:Nat} {x y:Operand}:dop P T (.call { callee:=.builtin .append,args:=[x,y].toArray,argTypes:=[ty,tu].toArray }) t h K=xN T ty tu (evD t x) (evD t y) h K:=by
 simp only [dop]
theorem zFm {ty:Nat} {x:Operand}:dop P T (.call { callee:=.builtin .clear,args:=[x].toArray,argTypes:=[ty].toArray }) t h K=JQ T ty (evD t x) h K:=by
 simp only [dop]
theorem zKK {l:List Operand} {ats:Array TypeId}:dop P T (.call { callee:=.builtin .min,args:=l.toArray,argTypes:=ats }) t h K=dmm true (evL t l) (kD K h):=by
 rw [← KE]
 simp only [dop]
 rfl
theorem zK5 {l:List Operand} {ats:Array TypeId}:dop P T (.call { callee:=.builtin .max,args:=l.toArray,argTypes:=ats }) t h K=dmm false (evL t l) (kD K h):=by
 rw [← KE]
 simp only [dop]
 rfl
end g
section b
variable {k:IntKind} {a b:Int} {x y:List UInt8} {K:PV→Prop} {T0:TI}
theorem db_i {op:BinOp} {k':IntKind} (h1:op≠.shl) (h2:op≠.shr):MY op T0 (.c (.p (.i k a))) (.c (.p (.i k' b))) K=(k=k'∧zK7 op k a b K):=by
 cases op <;> first|rfl|exact absurd rfl h1|exact absurd rfl h2
theorem zJz {k':IntKind}:MY .shl T0 (.c (.p (.i k a))) (.c (.p (.i k' b))) K=(0≤b∧K (.i k (k.wrap (a*2 ^ (min b.toNat k.bits))))):=nr rfl
theorem zKD {k':IntKind}:MY .shr T0 (.c (.p (.i k a))) (.c (.p (.i k' b))) K=(0≤b∧K (.i k (a.fdiv (2 ^ (min b.toNat k.bits))))):=nr rfl
theorem db_s {op:BinOp}:MY op T0 (.c (.p (.s x))) (.c (.p (.s y))) K=zKL op x y K:=nr rfl
theorem db_f {op:BinOp} {x y:Nat}:MY op T0 (.c (.p (.f x))) (.c (.p (.f y))) K=zJA op x y K:=nr rfl
def vbb (k:TK) (op:BinOp) (a b:Bool) (K:PV→Prop):Prop :=
 match k,op with
 | .bool,.eql=>K (.b (a == b))
 | .bool,.neq=>K (.b (!(a == b)))
 | _,_=>False
theorem db_b {op:BinOp} {x y:Bool}:MY op T0 (.c (.p (.b x))) (.c (.p (.b y))) K=vbb T0.k op x y K:=nr rfl
def vnl (k:TK) (op:BinOp) (x:PV) (K:PV→Prop):Prop :=
 match k,op with
 | .slice _,.eql=>zAM x (kB K)
 | .slice _,.neq=>zAM x (kN K)
 | _,_=>False
theorem db_n {op:BinOp} {x:PV}:MY op T0 (.c (.p x)) (.c (.p .nil)) K=vnl T0.k op x K:=by
 cases x <;> rfl
end b
end
end Go.Dm
end
section
namespace Go.Dm
open Go
theorem wrap_u64 {n:Int} (h1:0≤n) (h2:n≤18446744073709551615):IntKind.u64.wrap n=n:=by
 simp only [IntKind.wrap,IntKind.bits,IntKind.signed,Bool.false_and,Bool.false_eq_true,if_false]
 omega
theorem wrap_u8 {n:Int} (h1:0≤n) (h2:n≤255):IntKind.u8.wrap n=n:=by
 simp only [IntKind.wrap,IntKind.bits,IntKind.signed,Bool.false_and,Bool.false_eq_true,if_false]
 omega
theorem zFL (b:UInt8):IntKind.u8.wrap (b.toNat:Int)=b.toNat:=wrap_u8 (by omega) (by have:=b.toNat_lt;omega)
theorem zC5 (b:UInt8):IntKind.i64.wrap (b.toNat:Int)=b.toNat:=wrap_i64 (by omega) (by have:=b.toNat_lt;omega)
theorem zBt (b:UInt8):IntKind.u64.wrap (b.toNat:Int)=b.toNat:=wrap_u64 (by omega) (by have:=b.toNat_lt;omega)
def NC (h':aC) (dst:Option Tmp) (v:DV):DS→Prop:=fun s'=>s'.h=h'∧res s' dst=v
section
variable {P:Program} {T:Tab} {X0:Ctx}
theorem zBJ {h h':aC} {i:Nat} {v:DV} {n:Nat} {t:Fr}:NC h' (some i) v ⟨n,t,h⟩=(h=h'∧look t i=v):=nr rfl
theorem zAh {h h':aC} {v:DV} {n:Nat} {t:Fr}:NC h' none v ⟨n,t,h⟩=(h=h'∧.tup []=v):=nr rfl
theorem LB {S:List Nat} {j:Nat} {t:Fr} (h:S.contains j=true):look (keep S t) j=look t j:=by rw [sD,if_pos h]
theorem zIx {l:List Oper} {n i:Nat} {rest:List Nat} {t:Fr} {h:aC} {K:DS→Prop} {o:Oper} (v:DV) (ho:l[i]? = some o)
  (h1:∀ S:List Nat,S=o.looksAt l.toArray→oM P T l.toArray [o] ⟨n,keep S t,h⟩ (NC h o.dst v)) (h3:vA P T l.toArray n [] K rest (NB t o.dst v) [h]):vA P T l.toArray n [] K (i::rest) t [h] :=
 GY v (by simpa using ho) rfl (h1 _ rfl) (by simp) h3
theorem zIC {l:List Oper} {n i:Nat} {chain rest:List Nat} {t:Fr} {h:aC} {old:List aC} {K:DS→Prop} {o:Oper} (v:DV) (ho:l[i]? = some o) (hc:chain.contains i=false)
  (h1:∀ S:List Nat,S=o.looksAt l.toArray→∀ h0∈h::old.take (old.length-zKH l.toArray chain i),oM P T l.toArray [o] ⟨n,keep S t,h0⟩ (NC h0 o.dst v)) (h3:vA P T l.toArray n chain K rest (NB t o.dst v) (h::old)):
  vA P T l.toArray n chain K (i::rest) t (h::old) :=
 GY v (by simpa using ho) hc (h1 _ rfl h (by simp)) (fun h0 hh=>h1 _ rfl h0 (by simp [hh])) h3
theorem zMa {l:List Oper} {n i:Nat} {chain rest:List Nat} {t:Fr} {h:aC} {old:List aC} {K:DS→Prop} {o:Oper} (v:DV) (h':aC) (ho:l[i]? = some o) (hc:chain.contains i=true)
  (h1:∀ S:List Nat,S=o.looksAt l.toArray→oM P T l.toArray [o] ⟨n,keep S t,h⟩ (NC h' o.dst v)) (h3:vA P T l.toArray n chain K rest (NB t o.dst v) (h' :: h::old)):
  vA P T l.toArray n chain K (i::rest) t (h::old) :=
 zJp v h' (by simpa using ho) hc (h1 _ rfl) h3
theorem aW {l:List Oper} {n:Nat} {chain:List Nat} {t:Fr} {h:aC} {old:List aC} {K:DS→Prop} (hk:K ⟨n,t,h⟩):vA P T l.toArray n chain K [] t (h::old):=zFv hk
theorem zE7 {id:Nat} {ops:Array Oper} {s:DS} {Q:Exit→DS→Prop}:vc P T X0 (.region id ops true) s Q=SWP P X0 (.region id ops true) s Q:=nr rfl
theorem aN (hT:bT P T) (hm:P.follows .mixedOrders=true) {id:Nat} {l:List Oper} {n:Nat} {t:Fr} {h:aC} {Q:Exit→DS→Prop} (chain order:List Nat) (hp:SI l.toArray n chain order=true) (hd:vA P T l.toArray n chain (Q .normal) order t [h]):
  SWP P X0 (.region id l.toArray true) ⟨n,t,h⟩ Q:=zDy hT hm chain order hp hd
theorem aF {t:Fr} {i:Nat} {v:DV}:NB t (some i) v=(i,v)::t:=nr rfl
theorem bK {t:Fr} {v:DV}:NB t none v=t:=nr rfl
end
section use
variable {P:Program} {f:FuncId} {args args':List DV} {h:aC} {r:DV} {K:DV→aC→Prop}
theorem aS (hc:aA P f args [] fun d h'=>d=r∧h'=[]) (hp:iI h args=some args) (hfl:QA r=true) (hk:K r h):aA P f args h K:=aA.useFlat hc hp hfl hk
theorem bP (hc:aA P f args [] fun d h'=>d=r∧h'=[]) (hp:iI h args=some args) (hsh:∀ n,r.sh n=r) (hk:K r (sP h (kY args))):aA P f args h K:=aA.use hc hp hsh hk
theorem zA9 {α:Type} {C:α→Prop} {e:α→DV} (hc:aA P f args [] fun d h'=>∃ x,C x∧d=e x∧h'=[]) (hp:iI h args=some args) (hfl:∀ x,C x→QA (e x)=true) (hk:∀ x,C x→K (e x) h):aA P f args h K :=
 (aA.flat h hp (fun d h0 ⟨x,hx,hd,_⟩=>by rw [hd];exact hfl x hx) hc).mono fun d h' ⟨⟨h0,x,hx,h1,h2⟩,h3⟩=>by
  rw [h1,h3];exact hk x hx
theorem aA.frz (hne:(kY args).isEmpty=false) (hp:iI h args=some args') (hd:aA P f args' (sP h (kY args)) K):aA P f args h K:=by
 intro X vals hh hi gd hr
 obtain ⟨X',h1,h2,h3,h4,h5,h6⟩:=jC (kY args) hi
 rw [← hh] at hp hd
 have hr':dC X' args' vals:=kW (Y:=X') hi h4 h1 rfl rfl hr hp h6
 have key:∀ v w',Ret X' K v w'→Ret X K v w':=fun v w' ⟨d,Y,k1,k2,k3,k4,k5⟩=>⟨d,Y,k1,k2,h4.trans h5 k3,k4,k5⟩
 rw [← h1]
 rcases hd X' vals h2 h5 (gd.step h4) hr' with ⟨h7,h8⟩|⟨v,w',h7,h8⟩
 ·exact .inl ⟨h7,h8.mono fun e w' ⟨v,he,hv⟩=>⟨v,he,key _ _ hv⟩⟩
 ·exact .inr ⟨v,w',h7,key _ _ h8⟩
end use
attribute [go_sem] Nat.zero_add Nat.add_zero Nat.mul_one zEd List.take_length List.drop_zero List.length_map
attribute [go_sem] cond_true cond_false
attribute [go_sem] wrap_i64 wrap_u64 wrap_u8 zFL zC5 zBt zIL zJJ zHI zKc zFF zHH zC7 zE7 zHX zLx zLv zLq qb_n qb_r qb_e ql_e ql_r zHv zIU zI2 zJq zKA zKx zE2 zHU zH1
 zBz zCU zLV zLw zMc zL5 zLI zMb zLG zLT zLC zJ8 vp_t vp_f vp_b zH4 zAj zIP zCn zGa zMl zKB zJu evL zGy MH LW zBK zBp zFD zAp
 zH7 zF9 zKh zHD zK3 zLH zIb FH zDN zGJ zJt zHE zDW zGX zGA zCE zFp RV ZD zL6 zH2 zJj zKS zHL zKR zB2 zFm zKK zK5
 db_i zJz zKD db_s db_f vbb db_b vnl db_n zBJ zAh aF bK
attribute [go_sem] zFO zHF zEf ZN zCF KN zJN zIu zKj zKo zKv zFY
attribute [go_sem] VF zHh DQ zIp zC4 zF5 VI LG aD zK7 zJA zKL dun tE JP HU zAr xY JY zA1 zA dlen xN JQ xA dmm zDs cellsD EV.toDV KV.toDV FN zJr zIg TK.agg splice cellss zHd pvs RO zH8 yS zBi
 zDV PD iI NL zFW CE zIr zJH kY zLW VO sP zEF bV aG cI oC lO zEg LN RE zDJ zDX uF oH DV.sh CV.sh EV.sh KV.sh zFA LD ZX QA
attribute [go_sem] List.getElem?_cons_zero List.getElem?_cons_succ List.map_cons List.map_nil List.take_succ_cons List.take_zero List.take_nil List.drop_succ_cons List.drop_zero List.drop_nil List.nil_append List.cons_append List.append_nil List.set_cons_zero List.set_cons_succ
 List.length_cons List.length_nil List.length_append List.length_singleton List.all_cons List.all_nil List.reverse_cons List.reverse_nil Option.map_some Option.map_none Option.bind_some List.getD_cons_zero List.getD_cons_succ List.isEmpty_nil
 ne_eq not_false_eq_true not_true_eq_false true_and and_true false_and and_false reduceCtorEq decide_true decide_false Bool.false_eq_true Int.toNat_natCast Bool.not_true Bool.not_false eq_self true_implies false_implies List.forall_mem_cons forall_const implies_true List.not_mem_nil List.mem_cons or_false forall_eq_or_imp forall_eq Int.cast_ofNat_Int
 List.toList_toArray Bool.and_true Bool.true_and Bool.and_false Bool.false_and Bool.or_false Bool.or_true Bool.true_or Bool.false_or
end Go.Dm
end
section
namespace Go.Dm
open Go
section
variable {P:Program} {T:Tab} {X0:Ctx} {c:Code} {Q:Exit→DS→Prop}
def VR (P:Program) (T:Tab) (X0:Ctx) (c:Code) (Q:Exit→DS→Prop):Nat→DS→Prop
 | 0,_=>False
 | n+1,s=>vc P T X0 c s fun e s'=>match e with
  | .normal=>VR P T X0 c Q n s'
  | e=>Q e s'
def HG (P:Program) (T:Tab) (X0:Ctx) (c:Code) (Q:Exit→DS→Prop) (n:Nat):Exit→DS→Prop:=fun e s'=>match e with
 | .normal=>Later (VR P T X0 c Q n s')
 | e=>Q e s'
theorem zHW {n:Nat} {s:DS}:VR P T X0 c Q (n+1) s=vc P T X0 c s (HG P T X0 c Q n):=by
 have e:HG P T X0 c Q n=fun e s'=>match e with
   | .normal=>VR P T X0 c Q n s'
   | e=>Q e s':=by
  funext e s'
  cases e <;> first|rfl|exact qM _
 rw [e];rfl
theorem kr_n {n:Nat} {s:DS}:HG P T X0 c Q n .normal s=VR P T X0 c Q n s:=qM _
theorem kr_r {n:Nat} {s:DS}:HG P T X0 c Q n .ret s=Q .ret s:=nr rfl
theorem kr_e {n:Nat} {id:Nat} {s:DS}:HG P T X0 c Q n (.exit id) s=Q (.exit id) s:=nr rfl
theorem fT (hT:bT P T) (hm:P.follows .mixedOrders=true) (n:Nat) {s:DS} (h:VR P T X0 c Q n s):SWP P X0 (.loop c) s Q:=by
 intro gd X a hh hi hs ht
 refine wp_loop_rounds n ?_
 induction n generalizing s X a with
 | zero=>exact h.elim
 | succ n ih =>
  refine wp_mono (eB hT hm c h gd X a hh hi hs ht) fun e a' w' hp=>?_
  obtain ⟨s',Z,p1,rfl,p3,p4,p5,p6⟩:=hp
  cases e <;> simp only [Exit.then] at p1 ⊢
  case normal=>exact ih p1 Z a' p3 p4 p5 p6
  all_goals exact ⟨s',Z,p1,rfl,p3,p4,p5,p6⟩
theorem aJ {n0 n:Nat} {t t':Fr} {h h':aC} (h0:(Nat.ble n0 h'.length)=true) (h1:h'=h.take h'.length) (h2:h'.all (bV h'.length)=true) (h3:WkT h'.length t t'):YB n0 ⟨n,t,h⟩ ⟨n,t',h'⟩ :=
 ⟨rfl,Nat.le_of_ble_eq_true h0,h1,h2,h3⟩
theorem aM {n:Nat} {t:Fr}:WkT n t []=True:=nr rfl
theorem aI {n:Nat} {t t':Fr} {i:Nat} {d:DV}:WkT n t ((i,d)::t')=((look t i=d∧aH n d=true)∧WkT n t t'):=nr rfl
theorem iC (hT:bT P T) (hm:P.follows .mixedOrders=true) {n:Nat} {t:Fr} {h:aC} (i k:Nat) (hn:look t i=.c (.p .nil)) (hd:SWP P X0 c ⟨n,(i,.c (.own h.length 0 0))::t,h++[.arr k [] false]⟩ Q):SWP P X0 c ⟨n,t,h⟩ Q :=
 zFe i k hn hd
end
theorem zDR {k:Nat}:wkD (.c (.p .nil)) (.c (.p (.sl k []))):=zCM
theorem zAc {x:PV}:wkD (.c (.p x)) (.c (.p x)):=wkP.rfl
theorem allB (l:List UInt8):(∀ x∈cB l,x.length=1)=True:=eq_true (zEr l)
theorem zFx (a b:List UInt8):cB a++cB b=cB (a++b):=(PM a b).symm
theorem zLA (n:Int) (l:List UInt8) (h1:0≤n) (h2:n≤255):[PV.i .u8 n]::cB l=cB (UInt8.ofNat n.toNat::l):=by
 simp only [cB,List.map_cons]
 congr 2
 have:(UInt8.ofNat n.toNat).toNat=n.toNat:=by rw [UInt8.toNat_ofNat'];omega
 rw [this]
 congr 1
 omega
theorem zJd {α:Type} (n:Nat) (a:α) (l:List α):List.take (1+n) (a::l)=a::List.take n l:=by rw [Nat.add_comm];rfl
theorem zHz {α:Type} (n:Nat) (a:α) (l:List α):List.take (2+n) (a::l)=a::List.take (1+n) l:=by rw [show 2+n=(1+n)+1 by omega];rfl
theorem zIT {α:Type} (n:Nat) (a:α) (l:List α):List.take (3+n) (a::l)=a::List.take (2+n) l:=by rw [show 3+n=(2+n)+1 by omega];rfl
attribute [go_sem] zLA zJd zHz zIT
attribute [go_sem] zCR zCy allB zFx
attribute [go_sem] exists_eq_right wkD wkE zI0 wkC zD3 wkP
attribute [go_sem] zHW kr_n kr_r kr_e aM aI aH
end Go.Dm
end
section
namespace Go.Dm
open Go
section
variable {P:Program} {T:Tab} {X0:Ctx}
theorem zGm {S:List Nat} {t:Fr} {x:Operand} (h:∀ i,x=.tmp i→S.contains i=true):evD (keep S t) x=evD t x:=by
 cases x with
 | tmp i=>simp only [evD];exact LB (h i rfl)
 | _=>rfl
theorem zFV {S:List Nat} {t:Fr} {op:Op} {h:aC} {K:DV→aC→Prop} (hS:∀ x∈op.operands.toList,∀ i,x=.tmp i→S.contains i=true):dop P T op (keep S t) h K=dop P T op t h K:=by
 have e:∀ x∈op.operands.toList,evD (keep S t) x=evD t x:=fun x hx=>zGm (hS x hx)
 have em:∀ l:List Operand,(∀ x∈l,x∈op.operands.toList)→l.map (evD (keep S t))=l.map (evD t):=fun l hl=>List.map_congr_left fun x hx=>e x (hl x hx)
 cases op with
 | move x=>simp only [dop,e x (by simp [Op.operands])]
 | assign x=>simp only [dop,e x (by simp [Op.operands])]
 | pick c a b=>simp only [dop,e c (by simp [Op.operands]),e a (by simp [Op.operands]),e b (by simp [Op.operands])]
 | alloc ty=>rfl
 | box ty x=>simp only [dop,e x (by simp [Op.operands])]
 | build ty ps =>
  simp only [dop]
  rw [List.map_congr_left (g:=fun p=>(p.1,evD t p.2)) fun p hp=>by rw [e p.2 (by simp only [Op.operands,List.toList_toArray,List.mem_map];exact ⟨p,hp,rfl⟩)]]
 | buildSlice ty n ps =>
  simp only [dop]
  rw [List.map_congr_left (g:=fun p=>(p.1,evD t p.2)) fun p hp=>by rw [e p.2 (by simp only [Op.operands,List.toList_toArray,List.mem_map];exact ⟨p,hp,rfl⟩)]]
 | load ty x=>simp only [dop,e x (by simp [Op.operands])]
 | store ty a v=>simp only [dop,e a (by simp [Op.operands]),e v (by simp [Op.operands])]
 | nilCheck x=>simp only [dop,e x (by simp [Op.operands])]
 | binOp o ty a v ty'=>simp only [dop,e a (by simp [Op.operands]),e v (by simp [Op.operands])]
 | unOp o ty x=>simp only [dop,e x (by simp [Op.operands])]
 | convert s d x=>simp only [dop,e x (by simp [Op.operands])]
 | slice ty x lo hi mx =>
  have e1:=e x (by simp [Op.operands])
  have e2:∀ d K,bnd (keep S t) lo d K=bnd t lo d K:=fun d K=>by
   cases lo with
   | none=>rfl
   | some y=>simp only [bnd,e y (by simp [Op.operands])]
  have e3:∀ d K,bnd (keep S t) hi d K=bnd t hi d K:=fun d K=>by
   cases hi with
   | none=>rfl
   | some y=>simp only [bnd,e y (by simp [Op.operands])]
  have e4:∀ d K,bnd (keep S t) mx d K=bnd t mx d K:=fun d K=>by
   cases mx with
   | none=>rfl
   | some y=>simp only [bnd,e y (by simp [Op.operands])]
  have e2:bnd (keep S t) lo=bnd t lo:=funext fun d=>funext fun K=>e2 d K
  have e3:bnd (keep S t) hi=bnd t hi:=funext fun d=>funext fun K=>e3 d K
  have e4:bnd (keep S t) mx=bnd t mx:=funext fun d=>funext fun K=>e4 d K
  cases mx with
  | some y =>
   simp only [dop]
   rw [e2,e3,e4,e1]
  | none =>
   simp only [dop]
   rw [e2,e3,e1]
 | fieldAddr s x f=>simp only [dop,e x (by simp [Op.operands])]
 | field ty x f=>simp only [dop,e x (by simp [Op.operands])]
 | indexAddr ty a v=>simp only [dop,e a (by simp [Op.operands]),e v (by simp [Op.operands])]
 | index ty a v=>simp only [dop,e a (by simp [Op.operands]),e v (by simp [Op.operands])]
 | extract x n=>simp only [dop,e x (by simp [Op.operands])]
 | makeFunc f first cap =>
  cases f with
  | func f =>
   simp only [dop]
   rw [em cap.toList fun x hx=>by simp only [Op.operands,Array.toList_append,List.mem_append];exact .inr hx]
  | _=>rfl
 | makeSlice ty a v=>simp only [dop,e a (by simp [Op.operands]),e v (by simp [Op.operands])]
 | makeMap ty r =>
  cases r with
  | none=>rfl
  | some _=>rfl
 | lookup ty m x ok=>simp only [dop,e m (by simp [Op.operands]),e x (by simp [Op.operands])]
 | mapUpdate ty m x v=>simp only [dop,e m (by simp [Op.operands]),e x (by simp [Op.operands]),e v (by simp [Op.operands])]
 | call c =>
  obtain ⟨cal,args,ats⟩:=c
  have ea:args.toList.map (evD (keep S t))=args.toList.map (evD t):=em _ fun x hx=>by
   simp only [Op.operands,Call.operands,Array.toList_append,List.mem_append];exact .inr hx
  cases cal with
  | value f =>
   have ef:=e f (by simp [Op.operands,Call.operands])
   simp only [dop,ea,ef]
  | invoke r m=>rfl
  | builtin b =>
   have eone:∀ x∈args.toList,evD (keep S t) x=evD t x:=fun x hx=>e x (by simp only [Op.operands,Call.operands,Array.toList_append,List.mem_append];exact .inr hx)
   cases b with
   | len =>
    simp only [dop]
    split
    ·rename_i hx;rw [eone _ (by rw [hx];simp)]
    ·rfl
   | append =>
    simp only [dop]
    split
    ·rename_i hx;rw [eone _ (by rw [hx];simp),eone _ (by rw [hx];simp)]
    ·rfl
   | clear =>
    simp only [dop]
    split
    ·rename_i hx;rw [eone _ (by rw [hx];simp)]
    ·rfl
   | min=>simp only [dop,ea]
   | max=>simp only [dop,ea]
   | _=>rfl
 | _=>rfl
theorem zG {l:List Oper} {o:Oper} {n:Nat} {t:Fr} {h h':aC} {v:DV} {S:List Nat} (hS:S=o.looksAt l.toArray) (hn:(match o.dst with|some i=>Nat.blt i n|none=>true)=true)
  (hd:oM P T l.toArray [o] ⟨n,t,h⟩ (NC h' o.dst v)):oM P T l.toArray [o] ⟨n,keep S t,h⟩ (NC h' o.dst v):=by
 have hop:∀ K,dop P T o.op (keep S t) h K=dop P T o.op t h K:=fun K=>zFV fun x hx i hi=>by
  subst hi;subst hS
  simp only [Oper.looksAt,List.contains_eq_mem,List.mem_append,decide_eq_true_eq]
  exact .inl (List.mem_filterMap.2 ⟨_,hx,rfl⟩)
 have hk:∀ d h0,NC h' o.dst v (DS.put ⟨n,keep S t,h⟩ o.dst d h0)=NC h' o.dst v (DS.put ⟨n,t,h⟩ o.dst d h0):=by
  intro d h0
  cases hd':o.dst with
  | none=>rfl
  | some i =>
   rw [hd'] at hn
   have hi:i<n:=Nat.blt_eq.mp hn
   simp only [DS.put,if_pos hi,NC,res,aD,if_true]
 have hk':(fun d h0=>oM P T l.toArray [] (DS.put ⟨n,keep S t,h⟩ o.dst d h0) (NC h' o.dst v))=fun d h0=>oM P T l.toArray [] (DS.put ⟨n,t,h⟩ o.dst d h0) (NC h' o.dst v):=by
  funext d h0;exact hk d h0
 simp only [oM] at hd ⊢
 cases hg:o.guard with
 | none =>
  simp only [hg] at hd ⊢
  rw [hop]
  simp only [hk]
  exact hd
 | some g =>
  obtain ⟨j,b⟩:=g
  simp only [hg] at hd ⊢
  have hgv:((l.toArray[j]?).bind (·.dst)).map (fun i=>look (keep S t) i)=((l.toArray[j]?).bind (·.dst)).map fun i=>look t i:=by
   cases hy:(l.toArray[j]?).bind (·.dst) with
   | none=>rfl
   | some i =>
    simp only [Option.map_some]
    rw [LB]
    subst hS
    simp only [Oper.looksAt,hg,hy,List.contains_eq_mem,List.mem_append,decide_eq_true_eq]
    exact .inr (by simp)
  rw [hgv]
  simp only [hop,hk]
  exact hd
theorem cD {l:List Oper} {n i:Nat} {rest:List Nat} {t:Fr} {h:aC} {K:DS→Prop} {o:Oper} (v:DV) (ho:l[i]? = some o) (hn:(match o.dst with|some i=>Nat.blt i n|none=>true)=true)
  (h1:oM P T l.toArray [o] ⟨n,t,h⟩ (NC h o.dst v)) (h3:vA P T l.toArray n [] K rest (NB t o.dst v) [h]):vA P T l.toArray n [] K (i::rest) t [h] :=
 zIx v ho (fun _ hS=>zG hS hn h1) h3
theorem cX {l:List Oper} {n i:Nat} {chain rest:List Nat} {t:Fr} {h:aC} {old:List aC} {K:DS→Prop} {o:Oper} (v:DV) (h':aC) (ho:l[i]? = some o) (hn:(match o.dst with|some i=>Nat.blt i n|none=>true)=true) (hc:chain.contains i=true)
  (h1:oM P T l.toArray [o] ⟨n,t,h⟩ (NC h' o.dst v)) (h3:vA P T l.toArray n chain K rest (NB t o.dst v) (h' :: h::old)):vA P T l.toArray n chain K (i::rest) t (h::old) :=
 zMa v h' ho hc (fun _ hS=>zG hS hn h1) h3
theorem zK8 {l:List Oper} {n i:Nat} {chain rest:List Nat} {t:Fr} {h:aC} {old:List aC} {K:DS→Prop} {o:Oper} (v:DV) (ho:l[i]? = some o) (hn:(match o.dst with|some i=>Nat.blt i n|none=>true)=true) (hc:chain.contains i=false)
  (h1:∀ h0∈h::old.take (old.length-zKH l.toArray chain i),oM P T l.toArray [o] ⟨n,t,h0⟩ (NC h0 o.dst v)) (h3:vA P T l.toArray n chain K rest (NB t o.dst v) (h::old)):vA P T l.toArray n chain K (i::rest) t (h::old) :=
 zIC v ho hc (fun _ hS h0 hh=>zG hS hn (h1 h0 hh)) h3
theorem cY {l:List Oper} {n i:Nat} {chain rest:List Nat} {t:Fr} {h:aC} {old:List aC} {K:DS→Prop} {o:Oper} (v:DV) (ho:l[i]? = some o) (hn:(match o.dst with|some i=>Nat.blt i n|none=>true)=true) (hc:chain.contains i=false)
  (h1:∀ h0∈h::old,oM P T l.toArray [o] ⟨n,t,h0⟩ (NC h0 o.dst v)) (h3:vA P T l.toArray n chain K rest (NB t o.dst v) (h::old)):vA P T l.toArray n chain K (i::rest) t (h::old) :=
 zK8 v ho hn hc (fun h0 hh=>h1 h0 (by
  rcases List.mem_cons.1 hh with e|e
  ·exact e▸List.mem_cons_self
  ·exact List.mem_cons_of_mem _ (List.mem_of_mem_take e))) h3
theorem bJ {p:aC→Prop}:∀ h∈([]:List aC),p h:=fun _ h=>by cases h
theorem aZ {p:aC→Prop} {h:aC} {l:List aC} (h1:p h) (h2:∀ x∈l,p x):∀ x∈h::l,p x:=fun x hx=>by
 rcases List.mem_cons.1 hx with e|e
 ·exact e▸h1
 ·exact h2 x e
end
end Go.Dm
end
section
namespace Go.Dm
open Go
def zJK (a b:Nat):KV→Bool
 | .p _=>true
 | .ptr i _=>decide (i≠a) && decide (i≠b)
def DN (a b:Nat):CV→Option CV
 | .p x=>some (.p x)
 | .own i off len=>if i=b then some (.own a off len) else if i=a then none else some (.own i off len)
 | .ptr i off=>if i=a then none else if i=b then none else some (.ptr i off)
 | .aptr i x y=>if i=a then none else if i=b then none else some (.aptr i x y)
 | .mp i=>if i=a then none else if i=b then none else some (.mp i)
 | .bs i n=>if i=a then none else if i=b then none else some (.bs i n)
 | .eptr cs=>some (.eptr cs)
 | .full k es=>some (.full k es)
 | .clo f cap=>if cap.all (zJK a b) then some (.clo f cap) else none
def tK (a b:Nat):List CV→Option (List CV)
 | []=>some []
 | c::cs=>match DN a b c,tK a b cs with
  | some x,some xs=>some (x::xs)
  | _,_=>none
def DF (a b:Nat):DV→DV
 | .jk=>.jk
 | .c x=>match DN a b x with
  | some y=>.c y
  | none=>.jk
 | .agg xs=>match tK a b xs with
  | some ys=>.agg ys
  | none=>.jk
 | .tup []=>.tup []
 | .tup _=>.jk
def GF (a b:Nat):Fr→Fr
 | []=>[]
 | p::t=>(p.1,DF a b p.2)::GF a b t
def renB (a b:Nat):DB→DB
 | .box cells=>match tK a b cells with
  | some c=>.box c
  | none=>.dead
 | x=>x
def zHe (a b:Nat):aC→aC
 | []=>[]
 | x::l=>renB a b x::zHe a b l
def zJk (a b:Nat) (h:aC):aC:=((zHe a b h).set a (h.getD b .dead)).set b .dead
theorem SN (a b:Nat) (i:Nat):∀ t:Fr,look (GF a b t) i=DF a b (look t i)
 | []=>rfl
 | p::t=>by
  simp only [GF,look]
  split
  ·rfl
  ·exact SN a b i t
theorem zDA (a b:Nat):∀ (h:aC) (i:Nat),(zHe a b h)[i]? = (h[i]?).map (renB a b)
 | [],i=>by simp [zHe]
 | x::l,0=>rfl
 | x::l,i+1=>by simp only [zHe,List.getElem?_cons_succ];exact zDA a b l i
theorem FR (a b:Nat):∀ h:aC,(zHe a b h).length=h.length
 | []=>rfl
 | x::l=>by simp [zHe,FR a b l]
theorem kL (a b:Nat) (h:aC):(zJk a b h).length=h.length:=by simp [zJk,FR]
theorem jJ {a b:Nat} {x:DB} (h:(renB a b x).live=true):x.live=true∧(renB a b x).fix=x.fix:=by
 cases x with
 | box cells=>exact ⟨rfl,by simp only [renB];split <;> rfl⟩
 | dead=>simp [renB,DB.live] at h
 | arr k es r=>exact ⟨rfl,rfl⟩
 | mp es=>exact ⟨rfl,rfl⟩
def Ctx.ren (X:Ctx) (a b:Nat):Ctx:=⟨X.w,X.S,fun i=>if i=a then X.G b else X.G i,zJk a b X.h⟩
section
variable {X:Ctx} {a b:Nat}
theorem gK {h:aC} (hab:a≠b) {i:Nat} {db:DB} (hd:(zJk a b h)[i]? = some db) (hl:db.live=true):(i=a∧h[b]? = some db∧a<h.length)∨(i≠a∧i≠b∧∃ x,h[i]? = some x∧db=renB a b x):=by
 unfold zJk at hd
 rcases bU hd with ⟨rfl,rfl,_⟩|⟨hne,hd⟩
 ·simp [DB.live] at hl
 ·rcases bU hd with ⟨rfl,rfl,hlt⟩|⟨hne2,hd⟩
  ·left
   refine ⟨rfl,?_,by simpa [FR] using hlt⟩
   rw [List.getD_eq_getElem?_getD] at hl ⊢
   cases hb:h[b]? with
   | none=>rw [hb] at hl;simp [DB.live] at hl
   | some x=>rfl
  ·right
   rw [zDA] at hd
   obtain ⟨x,h1,h2⟩:=Option.map_eq_some_iff.1 hd
   exact ⟨hne2,hne,x,h1,h2.symm⟩
theorem sN.ren (hab:a≠b) {c:KV} {v:Value} (hc:zJK a b c=true) (h:sN X c v):sN (X.ren a b) c v:=by
 cases c <;> simp only [sN] at h ⊢
 case p=>exact h
 case ptr id off =>
  simp only [zJK,Bool.and_eq_true,decide_eq_true_eq] at hc
  obtain ⟨h1,h2,h3⟩:=h
  refine ⟨by simpa [Ctx.ren,kL] using h1,h2,fun cells hd=>?_⟩
  rcases gK hab hd rfl with ⟨h4,_⟩|⟨_,_,x,h5,h6⟩
  ·exact absurd h4 hc.1
  ·cases x with
   | box cells'=>simp only [Ctx.ren,if_neg hc.1];exact h3 _ h5
   | dead=>simp [renB] at h6
   | mp es=>simp [renB] at h6
   | arr k es r=>simp [renB] at h6
theorem fN.ren (hab:a≠b):∀ {cs:List KV} {vs:List Value},cs.all (zJK a b)=true→fN X cs vs→fN (X.ren a b) cs vs
 | [],[],_,_=>True.intro
 | _::_,_::_,hc,h=>by
  simp only [List.all_cons,Bool.and_eq_true] at hc
  exact ⟨h.1.ren hab hc.1,fN.ren hab hc.2 h.2⟩
 | [],_::_,_,h=>h.elim
 | _::_,[],_,h=>h.elim
theorem bS.ren (hab:a≠b) {kb:Nat} {eb:List (List PV)} (hb:X.h[b]? = some (.arr kb eb false)) (ha:a<X.h.length) {c c':CV} {v:Value} (hc:DN a b c=some c') (h:bS X c v):bS (X.ren a b) c' v:=by
 cases c <;> simp only [DN] at hc
 case p=>cases hc;exact h
 case own i off len =>
  split at hc
  ·rename_i hi
   subst hi
   cases hc
   simp only [bS] at h ⊢
   obtain ⟨h1,h2,h3⟩:=h
   refine ⟨by simpa [Ctx.ren,kL] using ha,h2,fun k es ro hd=>?_⟩
   rcases gK hab hd rfl with ⟨_,h5,_⟩|⟨h4,_⟩
   ·have:=h3 _ _ _ h5
    simp only [Ctx.ren,if_true]
    exact this
   ·exact absurd rfl h4
  ·rename_i hi
   split at hc
   ·cases hc
   ·rename_i hia
    cases hc
    simp only [bS] at h ⊢
    obtain ⟨h1,h2,h3⟩:=h
    refine ⟨by simpa [Ctx.ren,kL] using h1,h2,fun k es ro hd=>?_⟩
    rcases gK hab hd rfl with ⟨h4,_⟩|⟨_,_,x,h5,h6⟩
    ·exact absurd h4 hia
    ·cases x with
     | arr k' es' r' =>
      simp only [renB] at h6
      cases h6
      have:=h3 _ _ _ h5
      simp only [Ctx.ren,if_neg hia]
      exact this
     | dead=>simp [renB] at h6
     | mp es=>simp [renB] at h6
     | box cells=>simp only [renB] at h6;split at h6 <;> cases h6
 case ptr i off =>
  split at hc
  ·cases hc
  ·rename_i hia
   split at hc
   ·cases hc
   ·rename_i hib
    cases hc
    simp only [bS] at h ⊢
    obtain ⟨h1,h2,h3⟩:=h
    refine ⟨by simpa [Ctx.ren,kL] using h1,h2,fun cells hd=>?_⟩
    rcases gK hab hd rfl with ⟨h4,_⟩|⟨_,_,x,h5,h6⟩
    ·exact absurd h4 hia
    ·cases x with
     | box cells'=>simp only [Ctx.ren,if_neg hia];exact h3 _ h5
     | dead=>simp [renB] at h6
     | mp es=>simp [renB] at h6
     | arr k es r=>simp [renB] at h6
 case aptr i x y =>
  split at hc
  ·cases hc
  ·rename_i hia
   split at hc
   ·cases hc
   ·rename_i hib
    cases hc
    simp only [bS] at h ⊢
    obtain ⟨h1,h2,h3⟩:=h
    refine ⟨by simpa [Ctx.ren,kL] using h1,h2,fun k es ro hd=>?_⟩
    rcases gK hab hd rfl with ⟨h4,_⟩|⟨_,_,q,h5,h6⟩
    ·exact absurd h4 hia
    ·cases q with
     | arr k' es' r' =>
      simp only [renB] at h6
      cases h6
      simp only [Ctx.ren,if_neg hia]
      exact h3 _ _ _ h5
     | dead=>simp [renB] at h6
     | mp es=>simp [renB] at h6
     | box cells=>simp only [renB] at h6;split at h6 <;> cases h6
 case bs i n =>
  split at hc
  ·cases hc
  ·rename_i hia
   split at hc
   ·cases hc
   ·rename_i hib
    cases hc
    simp only [bS] at h ⊢
    obtain ⟨h1,h2,h3⟩:=h
    refine ⟨by simpa [Ctx.ren,kL] using h1,h2,fun cells hd=>?_⟩
    rcases gK hab hd rfl with ⟨h4,_⟩|⟨_,_,x,h5,h6⟩
    ·exact absurd h4 hia
    ·cases x with
     | box cells'=>simp only [Ctx.ren,if_neg hia];exact h3 _ h5
     | dead=>simp [renB] at h6
     | mp es=>simp [renB] at h6
     | arr k es r=>simp [renB] at h6
 case mp i =>
  split at hc
  ·cases hc
  ·rename_i hia
   split at hc
   ·cases hc
   ·rename_i hib
    cases hc
    simp only [bS] at h ⊢
    obtain ⟨h1,h2,h3⟩:=h
    refine ⟨by simpa [Ctx.ren,kL] using h1,h2,fun es hd=>?_⟩
    rcases gK hab hd rfl with ⟨h4,_⟩|⟨_,_,q,h5,h6⟩
    ·exact absurd h4 hia
    ·cases q with
     | mp es' =>
      simp only [renB] at h6
      cases h6
      simp only [Ctx.ren,if_neg hia]
      exact h3 _ h5
     | dead=>simp [renB] at h6
     | arr k es r=>simp [renB] at h6
     | box cells=>simp only [renB] at h6;split at h6 <;> cases h6
 case eptr cs=>cases hc;exact h
 case full k es=>cases hc;exact h
 case clo f cap =>
  split at hc
  ·rename_i hk
   cases hc
   obtain ⟨vs,h1,h2⟩:=h
   exact ⟨vs,h1,h2.ren hab hk⟩
  ·cases hc
theorem bE.ren (hab:a≠b) {kb:Nat} {eb:List (List PV)} (hb:X.h[b]? = some (.arr kb eb false)) (ha:a<X.h.length):∀ {cs cs':List CV} {vs:List Value},tK a b cs=some cs'→bE X cs vs→bE (X.ren a b) cs' vs
 | [],_,[],hc,_=>by simp only [tK] at hc;cases hc;exact True.intro
 | c::cs,cs',v::vs,hc,h=>by
  simp only [tK] at hc
  split at hc
  ·rename_i x xs h1 h2
   cases hc
   exact ⟨h.1.ren hab hb ha h1,bE.ren hab hb ha h2 h.2⟩
  ·cases hc
 | [],_,_::_,_,h=>h.elim
 | _::_,_,[],_,h=>h.elim
theorem bB.ren (hab:a≠b) {kb:Nat} {eb:List (List PV)} (hb:X.h[b]? = some (.arr kb eb false)) (ha:a<X.h.length) {d:DV} {v:Value} (h:bB X d v):bB (X.ren a b) (DF a b d) v:=by
 cases d with
 | jk=>exact True.intro
 | c x =>
  simp only [DF]
  split
  ·rename_i y hy;exact bS.ren hab hb ha hy h
  ·exact True.intro
 | agg xs =>
  simp only [DF]
  split
  ·rename_i ys hy
   obtain ⟨vs,h1,h2⟩:=h
   exact ⟨vs,h1,h2.ren hab hb ha hy⟩
  ·exact True.intro
 | tup es =>
  cases es with
  | nil =>
   obtain ⟨vs,h1,h2⟩:=h
   cases vs with
   | nil=>exact ⟨[],h1,True.intro⟩
   | cons _ _=>exact h2.elim
  | cons _ _=>exact True.intro
theorem cJ.ren (hab:a≠b) {kb:Nat} {eb:List (List PV)} (hb:X.h[b]? = some (.arr kb eb false)) (ha:a<X.h.length) {bl:Nat}:∀ {cs cs':List CV} {off:Nat},tK a b cs=some cs'→cJ X bl off cs→cJ (X.ren a b) bl off cs'
 | [],_,_,hc,_=>by simp only [tK] at hc;cases hc;exact True.intro
 | c::cs,cs',off,hc,h=>by
  simp only [tK] at hc
  split at hc
  ·rename_i x xs h1 h2
   cases hc
   obtain ⟨⟨v,h3,h4⟩,h5⟩:=h
   exact ⟨⟨v,h3,h4.ren hab hb ha h1⟩,cJ.ren hab hb ha h2 h5⟩
  ·cases hc
theorem LS:∀ {cs cs':List CV},tK a b cs=some cs'→cs'.length=cs.length
 | [],_,h=>by simp only [tK] at h;cases h;rfl
 | c::cs,cs',h=>by
  simp only [tK] at h
  split at h
  ·rename_i x xs h1 h2
   cases h
   simp [LS h2]
  ·cases h
theorem HInv.ren (hi:HInv X) (hab:a≠b) {kb:Nat} {eb:List (List PV)} (hb:X.h[b]? = some (.arr kb eb false)) (ha:a<X.h.length):HInv (X.ren a b) where
 slt:=hi.slt
 blk:=fun i db h=>by
  by_cases hl:db.live=true
  ·rcases gK hab h hl with ⟨rfl,h1,_⟩|⟨h1,h2,x,h3,rfl⟩
   ·have:=hi.blk b db h1
    rw [hb] at h1
    cases h1
    simp only [dR,Ctx.ren,if_true] at this ⊢
    exact this
   ·have:=hi.blk i x h3
    cases x with
    | dead=>simp [renB,DB.live] at hl
    | arr k es r =>
     simp only [renB,dR,Ctx.ren,if_neg h1] at this ⊢
     exact this
    | mp es =>
     simp only [renB,dR,Ctx.ren,if_neg h1] at this ⊢
     exact this
    | box cells =>
     simp only [renB] at hl ⊢
     split
     ·rename_i c hc
      simp only [dR] at this ⊢
      obtain ⟨g,arr,el,fz,g1,g2,g3,g4,g5⟩:=this
      exact ⟨g,arr,el,fz,by simp only [Ctx.ren,if_neg h1];exact g1,g2,by rw [LS hc];exact g3,g4,g5.ren hab hb ha hc⟩
     ·trivial
  ·cases db <;> simp_all [DB.live,dR]
 own:=fun i db g h hl hg=>by
  rcases gK hab h hl with ⟨rfl,h1,_⟩|⟨h1,h2,x,h3,rfl⟩
  ·simp only [Ctx.ren,if_true] at hg
   exact hi.own b db g h1 hl hg
  ·simp only [Ctx.ren,if_neg h1] at hg
   have hx:=jJ hl
   rw [hx.2]
   exact hi.own i x g h3 hx.1 hg
 inj:=fun i d i' d' g g' h hl hf h' hl' hg hg' he=>by
  rcases gK hab h hl with ⟨rfl,h1,_⟩|⟨h1,h2,x,h3,rfl⟩ <;> rcases gK hab h' hl' with ⟨rfl,h1',_⟩|⟨h1',h2',x',h3',rfl⟩
  ·rfl
  ·simp only [Ctx.ren,if_true] at hg
   simp only [Ctx.ren,if_neg h1'] at hg'
   have hx':=jJ hl'
   exact absurd (hi.inj b d i' x' g g' h1 hl hf h3' hx'.1 hg hg' he).symm h2'
  ·simp only [Ctx.ren,if_neg h1] at hg
   simp only [Ctx.ren,if_true] at hg'
   have hx:=jJ hl
   rw [hx.2] at hf
   exact absurd (hi.inj i x b d' g g' h3 hx.1 hf h1' hl' hg hg' he) h2
  ·simp only [Ctx.ren,if_neg h1] at hg
   simp only [Ctx.ren,if_neg h1'] at hg'
   have hx:=jJ hl
   have hx':=jJ hl'
   rw [hx.2] at hf
   exact hi.inj i x i' x' g g' h3 hx.1 hf h3' hx'.1 hg hg' he
theorem cK.renB {d x:DB} (h:cK d x) (hl:(renB a b x).live=true):cK d (renB a b x):=by
 cases x with
 | dead=>simp [Dm.renB,DB.live] at hl
 | arr k es r=>exact h
 | mp es=>exact h
 | box cells =>
  cases d <;> simp only [cK] at h
  simp only [Dm.renB] at hl ⊢
  split
  ·exact True.intro
  ·rename_i hn;simp [hn,DB.live] at hl
theorem Step.ren {X0:Ctx} (hs:Step X0 X) (hab:a≠b) (h0:X0.h.length≤a) (h1:X0.h.length≤b):Step X0 (X.ren a b) where
 size:=hs.size
 os:=hs.os
 tape:=hs.tape
 output:=hs.output
 kept:=hs.kept
 len:=by simp only [Ctx.ren,kL];exact hs.len
 ids:=fun i db' hlt h hl=>by
  rcases gK hab h hl with ⟨rfl,_⟩|⟨g1,g2,x,g3,rfl⟩
  ·omega
  ·obtain ⟨db,k1,k2,k3,k4⟩:=hs.ids i x hlt g3 (jJ hl).1
   exact ⟨db,k1,k2.renB hl,by simp only [Ctx.ren,if_neg g1];exact k3,k4⟩
 frame:=hs.frame
 mine:=fun i db g h hl hf hg=>by
  rcases gK hab h hl with ⟨rfl,g1,_⟩|⟨g1,g2,x,g3,rfl⟩
  ·simp only [Ctx.ren,if_true] at hg
   exact hs.mine b db g g1 hl hf hg
  ·simp only [Ctx.ren,if_neg g1] at hg
   have hx:=jJ hl
   rw [hx.2] at hf
   exact hs.mine i x g g3 hx.1 hf hg
 upper:=hs.upper
end
def DS.ren (s:DS) (a b:Nat):DS:=⟨s.n,GF a b s.t,zJk a b s.h⟩
def MJ (n0:Nat) (s s':DS):Prop:=YB n0 s s'∨∃ a b kb eb,a≠b∧n0≤a∧n0≤b∧a<s.h.length∧s.h[b]? = some (.arr kb eb false)∧YB n0 (s.ren a b) s'
theorem MJ.use {n0:Nat} {s s':DS} (h:MJ n0 s s') {X0 X:Ctx} {a:Act} (hn:X0.h.length=n0) (hh:X.h=s.h) (hi:HInv X) (hs:Step X0 X) (ht:TInv X s a):∃ X',X'.w=X.w∧X'.h=s'.h∧HInv X'∧Step X0 X'∧TInv X' s' a:=by
 rcases h with h|⟨p,q,kb,eb,hab,h0,h1,hp,hq,h⟩
 ·exact h.use hn hh hi hs ht
 ·rw [← hh] at hp hq
  refine h.use (X:=X.ren p q) hn ?_ (hi.ren hab hq hp) (hs.ren hab (by omega) (by omega)) ⟨ht.size,fun i=>?_,ht.defs⟩
  ·simp only [Ctx.ren,DS.ren,hh]
  ·simp only [DS.ren]
   rw [SN]
   exact (ht.rel i).ren hab hq hp
section
variable {P:Program} {T:Tab} {X0:Ctx} {c:Code} {Q:Exit→DS→Prop}
def uR {α:Type} (n0:Nat) (I:α→DS) (J:α→Prop) (μ:α→Nat) (x:α) (Q:Exit→DS→Prop):Exit→DS→Prop:=fun e s'=>match e with
 | .normal=>∃ y,J y∧μ y < μ x∧MJ n0 s' (I y)
 | e=>Q e s'
theorem bC (hT:bT P T) (hm:P.follows .mixedOrders=true) {α:Type} (I:α→DS) (J:α→Prop) (μ:α→Nat) (x0:α) {s:DS} (hJ:J x0) (hw:MJ X0.h.length s (I x0))
  (h:∀ x,J x→vc P T X0 c (I x) (uR X0.h.length I J μ x Q)):SWP P X0 (.loop c) s Q:=by
 intro gd X a hh hi hs ht
 obtain ⟨X',h1,h2,h3,h4,h5⟩:=hw.use rfl hh hi hs ht
 rw [← h1]
 refine wp_loop_ghost (fun n a w=>∃ x X,μ x=n∧J x∧X.w=w∧X.h=(I x).h∧HInv X∧Step X0 X∧TInv X (I x) a) (μ x0) ⟨x0,X',rfl,hJ,rfl,h2,h3,h4,h5⟩ ?_
 rintro n a' w' ⟨x,Y,rfl,k1,rfl,k2,k3,k4,k5⟩
 refine wp_mono (eB hT hm c (h x k1) gd Y a' k2 k3 k4 k5) fun e a w hp=>?_
 obtain ⟨s',Z,p1,rfl,p3,p4,p5,p6⟩:=hp
 cases e <;> simp only [Exit.then,uR] at p1 ⊢
 case normal =>
  obtain ⟨y,q1,q2,q3⟩:=p1
  obtain ⟨Z',r1,r2,r3,r4,r5⟩:=q3.use rfl p3 p4 p5 p6
  exact ⟨μ y,q2,y,Z',rfl,q1,r1,r2,r3,r4,r5⟩
 all_goals exact ⟨s',Z,p1,rfl,p3,p4,p5,p6⟩
theorem qr_e {α:Type} {n0:Nat} {I:α→DS} {J:α→Prop} {μ:α→Nat} {x:α} {id:Nat} {s:DS}:uR n0 I J μ x Q (.exit id) s=Q (.exit id) s:=nr rfl
theorem qr_r {α:Type} {n0:Nat} {I:α→DS} {J:α→Prop} {μ:α→Nat} {x:α} {s:DS}:uR n0 I J μ x Q .ret s=Q .ret s:=nr rfl
theorem gL {α:Type} {n0:Nat} {I:α→DS} {J:α→Prop} {μ:α→Nat} {x:α} {s:DS} (y:α) (h1:J y) (h2:μ y < μ x) (h3:YB n0 s (I y)):uR n0 I J μ x Q .normal s:=⟨y,h1,h2,.inl h3⟩
theorem jU {α:Type} {n0:Nat} {I:α→DS} {J:α→Prop} {μ:α→Nat} {x:α} {s:DS} (y:α) (a b:Nat) {kb:Nat} {eb:List (List PV)} (h1:J y) (h2:μ y < μ x) (hc:(!(Nat.beq a b) && Nat.ble n0 a && Nat.ble n0 b && Nat.blt a s.h.length)=true)
  (hb:s.h[b]? = some (.arr kb eb false)) (h3:YB n0 (s.ren a b) (I y)):uR n0 I J μ x Q .normal s:=by
 simp only [Bool.and_eq_true,Bool.not_eq_true'] at hc
 refine ⟨y,h1,h2,.inr ⟨a,b,kb,eb,fun e=>?_,Nat.le_of_ble_eq_true hc.1.1.2,Nat.le_of_ble_eq_true hc.1.2,Nat.blt_eq.mp hc.2,hb,h3⟩⟩
 have:=hc.1.1.1
 subst e
 rw [Nat.beq_refl] at this
 cases this
end
theorem VN (n:Nat):((n:Int)+1).toNat=n+1:=by omega
attribute [go_sem] VN
attribute [go_sem] qr_e qr_r DS.ren GF DF DN tK renB zHe zJk zJK
end Go.Dm
end
end
