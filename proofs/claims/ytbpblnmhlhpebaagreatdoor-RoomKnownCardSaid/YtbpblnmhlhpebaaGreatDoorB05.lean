/- Part 6 of the proof of roomKnown_card. No condition. -/
import Derived.Test.YtbpblnmhlhpebaaGreatDoorB03
import Derived.ProofKit
import Derived.Below
import Derived.ChangeSame
import Derived.WideKeyArgs
set_option linter.all false
section
section
namespace Go.Dm
open Go
theorem wU {α:Type}:∀ (n:Nat) {p:Nat→α→Prop},(∀ i,i<n→∃ x,p i x)→∃ l:List α,l.length=n∧∀ (i:Nat) (x:α),l[i]? = some x→p i x
 | 0,_,_=>⟨[],rfl,by simp⟩
 | n+1,p,h=>by
  obtain ⟨x,hx⟩:=h 0 (by omega)
  obtain ⟨l,h1,h2⟩:=wU n (p:=fun i=>p (i+1)) fun i hi=>h (i+1) (by omega)
  refine ⟨x::l,by simp [h1],fun i y hy=>?_⟩
  cases i with
  | zero=>simp only [List.getElem?_cons_zero,Option.some.injEq] at hy;subst hy;exact hx
  | succ i=>simp only [List.getElem?_cons_succ] at hy;exact h2 i y hy
section
variable {P:Program} {T:Tab} {H:Type} {enc:TypeId × Value→H} {w:World} {sp:Nat→Bool} {held:Bool}
end
end Go.Dm
end
section
namespace Go.Dm
open Go Go.RowKit Go.ChangeShapes Go.WideShapes
def kG (W:World):Ctx:=⟨W,fun b=>b<W.heap.size,fun _=>none,[]⟩
theorem MV (W:World):HInv (kG W) :=
 ⟨fun _ h=>h,fun id db h=>by simp [kG] at h,fun id db g h=>by simp [kG] at h,fun id db id' db' g g' h=>by simp [kG] at h⟩
section
variable {P:Program} {T:Tab} {H:Type} {enc:TypeId × Value→H}
theorem zC0 {f:FuncId} {fn:Func} (hf:P.funcs[f]? = some fn) (hb:fn.body.isSome=true) (hn:(fn.name == "runtime.NumGoroutine")=false) {ds:List DV} (hc:aA P f ds [] fun d h=>d=.c (.p (.b true))∧h=[])
  {W:World} (hsh:W.ShapedOpen P) (hsd:zKy W) {args:Array Value} (hr:dC (kG W) ds args.toList):Calls P f args W fun e W'=>e=.returned (.bool true)∧Below W.heap.size W W':=by
 have key:∀ v W',Ret (kG W) (fun d h=>d=.c (.p (.b true))∧h=[]) v W'→v=.bool true∧Below W.heap.size W W':=by
  rintro v W' ⟨d,X',rfl,_,hs,hd,rfl,_⟩
  refine ⟨hd,hs.os,hs.tape,hs.output.1,hs.size,fun k hk=>hs.frame k hk fun id db g h=>by simp [kG] at h⟩
 rcases hc (kG W) args.toList rfl (MV W) ⟨W,⟨hsh,hsd⟩,fun b hb=>⟨hb,rfl⟩⟩ hr with ⟨_,h⟩|⟨v,w',h,_⟩
 ·exact h.mono fun e W' ⟨v,he,hv⟩=>by
   obtain ⟨rfl,h2⟩:=key v W' hv
   exact ⟨he,h2⟩
 ·exfalso
  obtain ⟨c,hc⟩:=Option.isSome_iff_exists.1 hb
  have hn':¬ fn.name = "runtime.NumGoroutine" := by simpa using hn
  simp [callFunc,hf,hn',hc] at h
theorem sF (hl:laidOutB P=true) {W W':World} {sp':Nat→Bool} (hb:Below W.heap.size W W'):∀ {ts:List TypeId} {vs:List Value} {ds:List (DataW H)} {ps:List MemPlace},(∀ t∈ts,P.readableRec t=true∧t<P.types.size) →
  DataW.TrodAll enc P W 0 (fun _=>true) true ts vs ds ps→(∀ p∈ps,p.block<W.heap.size)→(∀ p∈ps,sp' p.block=true)→DataW.TrodAll enc P W' 0 sp' true ts vs ds ps
 | [],[],[],_,_,h,_,_=>h
 | t::ts,v::vs,d::ds,ps,hr,h,hlt,hs=>by
  obtain ⟨p,q,h1,h2,rfl⟩:=h
  have ht:=hr t List.mem_cons_self
  exact ⟨p,q,WideElems.Trod_stays hl ht.1 ht.2 h1 (fun x hx=>hb.same (hlt x (List.mem_append_left _ hx))) (fun x hx=>hs x (List.mem_append_left _ hx)),
   sF hl hb (fun t ht=>hr t (List.mem_cons_of_mem _ ht)) h2 (fun x hx=>hlt x (List.mem_append_right _ hx)) (fun x hx=>hs x (List.mem_append_right _ hx)),rfl⟩
 | [],_::_,_,_,_,h,_,_=>by cases h
 | [],[],_::_,_,_,h,_,_=>by cases h
 | _::_,[],_,_,_,h,_,_=>by cases h
 | _::_,_::_,[],_,_,h,_,_=>by cases h
theorem zEQ {fn:Func} {s:ChangeSpec} {handsOn again fresh:Bool} {W W':World} {args:Array Value} {ds gs:List (DataW H)} {before:List MemPlace} {tb:Nat} (hl:laidOutB P=true) (hvars:s.vars=[])
  (hW:DataW.Whole enc P fn.params.toList s.vars false W args.toList ds gs before) (hrd:∀ t∈fn.params.toList,P.readableRec t=true∧t<P.types.size) (hres:fn.resultTypes = #[tb]) (hbool:P.underlying tb=some .bool)
  (hfn:s.fn H (ds++gs) = { results:=[.lit (.bool true)],args:=ds }) (hb:Below W.heap.size W W'):s.post enc P fn false fresh handsOn again W args (.bool true) W':=by
 have hlt:∀ p∈before,p.block<W.heap.size:=fun p hp=>hW.lt p hp
 have hold:∀ p∈before,(fun b=>decide (b<W.heap.size)) p.block=true:=fun p hp=>by simpa using hlt p hp
 have hW0:=hW
 obtain ⟨pa,pv,hA,hV,hps,hz,hn⟩:=hW0
 rw [hvars] at hV
 obtain ⟨rfl,rfl⟩:=trodVars_none hV
 rw [List.append_nil] at hps
 subst hps
 have hargs:∀ sp:Nat→Bool,(∀ p∈before,sp p.block=true)→DataW.TrodAll enc P W' 0 sp true fn.params.toList args.toList ds before:=fun sp hs=>sF hl hb hrd hA hlt hs
 have hr:∀ (b:Nat) (sp:Nat→Bool) (hd:Bool),DataW.TrodAll enc P W' b sp hd fn.resultTypes.toList ((Value.bool true).resultList fn.resultTypes.size) [.lit (.bool true)] []:=by
  intro b sp hd
  rw [hres]
  exact trodAll_mk1 ⟨1,by simp [DataW.trod,Value.cells,hbool]⟩
 have hok:∀ (j:Nat) (t:TypeId) (r:Value),fn.resultTypes[j]? = some t→((Value.bool true).resultList fn.resultTypes.size)[j]? = some r→Value.okWide P W' .any 0 t r:=by
  rw [hres]
  intro j t r h1 h2
  cases j with
  | zero =>
   simp only [Array.size_singleton,Value.resultList] at h2
   simp at h1 h2
   subst h1;subst h2
   simp [Value.okWide,hbool,Cell.okWide,Cell.ok]
  | succ j=>simp at h1
 refine ⟨ds,[],before,[],before,[],hW,?_,?_,?_,World.keptBut_mono (fun p hp=>⟨hp,.inr (by simpa using hp)⟩) (hb.frame (·∈before)),fun _=>?_⟩
 ·rw [hfn];exact hr _ _ _
 ·rw [hfn];exact hargs _ hold
 ·rw [hvars,hfn];rfl
 ·refine ⟨hok,_,[],([]++before)++[],⟨[]++before,[],trodAll_append (hargs _ (fun _ _=>rfl)) (hr _ _ _),(by rw [hvars];exact rfl),rfl,?_,?_⟩,?_⟩
  ·intro b off hp
   have hin:MemPlace.cell b off∈before:=by simpa using hp
   rw [hb.frozen (hlt _ hin)]
   exact hz b off hin
  ·intro ha;cases ha
  ·intro p hp _
   simpa using hp
theorem MN {l:List TypeId} (h:(l.all fun t=>P.readableRec t && decide (t<P.types.size))=true):∀ t∈l,P.readableRec t=true∧t<P.types.size:=fun t ht=>by
 have:=List.all_eq_true.1 h t ht
 simpa using this
end
end Go.Dm
end
end
section
section
namespace Go.Dm
open Go
def rg (w:Nat):Nat:=w % 9223372036854775808
def sn (w:Nat):Bool:=w / 9223372036854775808 % 2 == 1
def mgn (r:Nat):Nat:=if r<4503599627370496 then r else 4503599627370496+r % 4503599627370496
def plc (r:Nat):Nat:=if r<4503599627370496 then 0 else r / 4503599627370496-1
def mv (r:Nat):Nat:=mgn r*2 ^ plc r
def sg (s:Bool) (v:Nat):Int:=if s then -(v:Int) else v
theorem zBA (r:Nat):mv r<mv (r+1):=by
 unfold mv mgn plc
 by_cases h1:r+1<4503599627370496
 ·rw [if_pos (by omega),if_pos (by omega),if_pos h1,if_pos h1];simp
 ·by_cases h2:r<4503599627370496
  ·have:r+1=4503599627370496:=by omega
   rw [if_pos h2,if_pos h2,this];simp;omega
  ·rw [if_neg h2,if_neg h2,if_neg h1,if_neg h1]
   have he:1≤r / 4503599627370496:=by omega
   by_cases h3:r % 4503599627370496+1<4503599627370496
   ·have e1:(r+1) / 4503599627370496=r / 4503599627370496:=by omega
    have e2:(r+1) % 4503599627370496=r % 4503599627370496+1:=by omega
    rw [e1,e2]
    exact Nat.mul_lt_mul_of_pos_right (by omega) (Nat.two_pow_pos _)
   ·have e1:(r+1) / 4503599627370496-1=(r / 4503599627370496-1)+1:=by omega
    have e2:(r+1) % 4503599627370496=0:=by omega
    rw [e1,e2,Nat.pow_succ]
    have hp:=Nat.two_pow_pos (r / 4503599627370496-1)
    generalize 2 ^ (r / 4503599627370496-1)=p at hp ⊢
    generalize hm:r % 4503599627370496=m at h3
    have hm':m<4503599627370496:=by omega
    have:(4503599627370496+m)*p<(4503599627370496+4503599627370496)*p:=Nat.mul_lt_mul_of_pos_right (by omega) hp
    have e3:(4503599627370496+0)*(p*2)=(4503599627370496+4503599627370496)*p:=by rw [Nat.add_zero,Nat.mul_comm p 2,← Nat.mul_assoc]
    rw [e3];exact this
theorem zEW {r q:Nat} (h:r<q):mv r<mv q:=by
 induction q with
 | zero=>omega
 | succ q ih =>
  rcases Nat.lt_or_ge r q with h'|h'
  ·exact Nat.lt_trans (ih h') (zBA q)
  ·have:r=q:=by omega
   subst this;exact zBA r
theorem JU {r q:Nat}:mv r<mv q↔r<q:=by
 refine ⟨fun h=>?_,zEW⟩
 rcases Nat.lt_or_ge r q with h'|h'
 ·exact h'
 ·rcases Nat.eq_or_lt_of_le h' with h2|h2
  ·subst h2;omega
  ·have:=zEW h2;omega
theorem FO:mv 0=0:=by decide
theorem mD {w:Nat} (h:rg w<9218868437227405312):Ieee.double.read w=.number (sn w) (mgn (rg w)) (-1074+(plc (rg w):Int)):=by
 have e1:Ieee.double.signWeight=9223372036854775808:=by decide
 have e2:Ieee.double.binade=4503599627370496:=by decide
 have e3:Ieee.double.infRung=9218868437227405312:=by decide
 have e4:Ieee.double.leastPlace = -1074:=by decide
 simp only [Ieee.Format.read,e1,e2,e3,e4]
 simp only [rg] at h ⊢
 unfold mgn plc sn
 by_cases h1:w % 9223372036854775808<4503599627370496
 ·simp only [if_pos h1];rfl
 ·simp only [if_neg h1,if_pos h]
theorem vQ {w:Nat} (h:rg w=9218868437227405312):Ieee.double.read w=.infinity (sn w):=by
 have e1:Ieee.double.signWeight=9223372036854775808:=by decide
 have e2:Ieee.double.binade=4503599627370496:=by decide
 have e3:Ieee.double.infRung=9218868437227405312:=by decide
 simp only [Ieee.Format.read,e1,e2,e3]
 simp only [rg] at h
 rw [h]
 rfl
theorem zEU {w:Nat} (h:9218868437227405312<rg w):∃ s f,Ieee.double.read w=.nan s f:=by
 have e1:Ieee.double.signWeight=9223372036854775808:=by decide
 have e2:Ieee.double.binade=4503599627370496:=by decide
 have e3:Ieee.double.infRung=9218868437227405312:=by decide
 simp only [Ieee.Format.read,e1,e2,e3]
 simp only [rg] at h
 rw [if_neg (by omega),if_neg (by omega),if_neg (by omega)]
 exact ⟨_,_,rfl⟩
def QZ (a b:Int):Ordering:=if a<b then .lt else if a=b then .eq else .gt
theorem NZ (a b:Int):compare a b=QZ a b:=rfl
theorem VD {a b c d:Int} (h1:a<b↔c<d) (h2:a=b↔c=d):QZ a b=QZ c d:=by
 unfold QZ
 by_cases x:a<b
 ·rw [if_pos x,if_pos (h1.1 x)]
 ·rw [if_neg x,if_neg (fun h=>x (h1.2 h))]
  by_cases y:a=b
  ·rw [if_pos y,if_pos (h2.1 y)]
  ·rw [if_neg y,if_neg (fun h=>y (h2.2 h))]
theorem QI {a b:Nat} (ha:rg a<9218868437227405312) (hb:rg b<9218868437227405312):HZ a b=some (QZ (sg (sn a) (rg a)) (sg (sn b) (rg b))):=by
 show Ieee.double.order a b=_
 simp only [Ieee.Format.order,mD ha,mD hb,Ieee.Datum.order,NZ]
 congr 1
 generalize hx:(-1074+(plc (rg a):Int)-min (-1074+(plc (rg a):Int)) (-1074+(plc (rg b):Int))).toNat=x
 generalize hy:(-1074+(plc (rg b):Int)-min (-1074+(plc (rg a):Int)) (-1074+(plc (rg b):Int))).toNat=y
 have hx':plc (rg a)=x+min (plc (rg a)) (plc (rg b)):=by omega
 have hy':plc (rg b)=y+min (plc (rg a)) (plc (rg b)):=by omega
 generalize min (plc (rg a)) (plc (rg b))=z at hx' hy'
 have ea:mv (rg a)=(mgn (rg a) <<< x)*2 ^ z:=by rw [mv,hx',Nat.pow_add,Nat.shiftLeft_eq,Nat.mul_assoc]
 have eb:mv (rg b)=(mgn (rg b) <<< y)*2 ^ z:=by rw [mv,hy',Nat.pow_add,Nat.shiftLeft_eq,Nat.mul_assoc]
 have hz:=Nat.two_pow_pos z
 have l1:(mgn (rg a) <<< x)<(mgn (rg b) <<< y)↔rg a<rg b:=by
  rw [← JU (r:=rg a),ea,eb]
  exact ⟨fun h=>Nat.mul_lt_mul_of_pos_right h hz,fun h=>Nat.lt_of_mul_lt_mul_right h⟩
 have l2:(mgn (rg b) <<< y)<(mgn (rg a) <<< x)↔rg b<rg a:=by
  rw [← JU (r:=rg b),ea,eb]
  exact ⟨fun h=>Nat.mul_lt_mul_of_pos_right h hz,fun h=>Nat.lt_of_mul_lt_mul_right h⟩
 have z1:mgn (rg a) <<< x=0↔rg a=0:=by
  constructor
  ·intro h
   rw [h,Nat.zero_mul,← FO] at ea
   rcases Nat.lt_or_ge 0 (rg a) with h'|h'
   ·have:=zEW h';omega
   ·omega
  ·intro h
   rw [h,FO] at ea
   rw [h]
   rcases Nat.eq_zero_or_pos (mgn 0 <<< x) with h'|h'
   ·exact h'
   ·have:=Nat.mul_pos h' hz;omega
 have z2:mgn (rg b) <<< y=0↔rg b=0:=by
  constructor
  ·intro h
   rw [h,Nat.zero_mul,← FO] at eb
   rcases Nat.lt_or_ge 0 (rg b) with h'|h'
   ·have:=zEW h';omega
   ·omega
  ·intro h
   rw [h,FO] at eb
   rw [h]
   rcases Nat.eq_zero_or_pos (mgn 0 <<< y) with h'|h'
   ·exact h'
   ·have:=Nat.mul_pos h' hz;omega
 simp only [Ieee.signed]
 generalize mgn (rg a) <<< x=A at *
 generalize mgn (rg b) <<< y=B at *
 unfold sg
 refine VD ?_ ?_
 ·cases sn a <;> cases sn b <;> simp <;> omega
 ·cases sn a <;> cases sn b <;> simp <;> omega
theorem EJ {a b:Nat} (ha:rg a≤9218868437227405312) (hb:rg b≤9218868437227405312):HZ a b=some (QZ (sg (sn a) (rg a)) (sg (sn b) (rg b))):=by
 rcases Nat.lt_or_ge (rg a) 9218868437227405312 with h1|h1 <;> rcases Nat.lt_or_ge (rg b) 9218868437227405312 with h2|h2
 ·exact QI h1 h2
 ·have h2':rg b=9218868437227405312:=by omega
  show Ieee.double.order a b=_
  simp only [Ieee.Format.order,mD h1,vQ h2',Ieee.Datum.order]
  congr 1
  rw [h2']
  unfold QZ sg
  cases sn a <;> cases sn b <;> simp <;> (repeat' split) <;> first|rfl|omega
 ·have h1':rg a=9218868437227405312:=by omega
  show Ieee.double.order a b=_
  simp only [Ieee.Format.order,mD h2,vQ h1',Ieee.Datum.order]
  congr 1
  rw [h1']
  unfold QZ sg
  cases sn a <;> cases sn b <;> simp <;> (repeat' split) <;> first|rfl|omega
 ·have h1':rg a=9218868437227405312:=by omega
  have h2':rg b=9218868437227405312:=by omega
  show Ieee.double.order a b=_
  simp only [Ieee.Format.order,vQ h1',vQ h2',Ieee.Datum.order]
  congr 1
  rw [h1',h2']
  cases sn a <;> cases sn b <;> decide
theorem XJ {a b:Nat} (ha:9218868437227405312<rg a):HZ a b=none:=by
 obtain ⟨s,f,h⟩:=zEU ha
 show Ieee.double.order a b=_
 simp only [Ieee.Format.order,h,Ieee.Datum.order]
end Go.Dm
end
section
namespace Go.Dm
open Go
def isNaN (x:Nat):Bool:=HZ x x != some .eq
def zBC:Nat:=9221120237041090561
def dD (x:Nat):Nat:=if isNaN x then zBC else x
def XC (x:Nat):Bool:=decide (IntKind.i64.wrap x<0)
def jV (x:Nat):Int × Int:=if isNaN x then (1,0) else if HZ x 0 == some .eq && XC x then (0,-1) else (0,0)
def LO (a b:Int):Int:=if a<b then -1 else if b<a then 1 else 0
def zJx (a b:Nat):Int:=if isNaN a then (if isNaN b then 0 else -1) else if isNaN b then 1 else if HZ a b == some .lt then -1 else if HZ a b == some .gt then 1 else 0
def mR (a b:Nat):Int:=if 0<IntKind.i64.wrap ((jV a).1+(jV b).1) then LO (jV a).1 (jV b).1 else if zJx a b == 0 then LO (jV a).2 (jV b).2 else zJx a b
def uT (a b:Nat):Nat:=if mR a b<0 then dD b else dD a
theorem zAP (a:Int):QZ a a=.eq:=by unfold QZ;rw [if_neg (by omega),if_pos rfl]
theorem nA (x:Nat):isNaN x=decide (9218868437227405312<rg x):=by
 unfold isNaN
 rcases Nat.lt_or_ge 9218868437227405312 (rg x) with h|h
 ·rw [XJ h,decide_eq_true h];rfl
 ·rw [EJ h h,zAP,decide_eq_false (by omega)];rfl
theorem zJU (x:Nat):rg x<9223372036854775808:=Nat.mod_lt _ (by omega)
theorem xM:isNaN zBC=true:=by rw [nA];decide
theorem rN {x:Nat} (h:x<18446744073709551616):dD x<18446744073709551616:=by
 unfold dD;split
 ·decide
 ·exact h
theorem VG (x:Nat):dD (dD x)=dD x:=by
 unfold dD
 by_cases h:isNaN x=true
 ·rw [if_pos h,if_pos xM]
 ·rw [if_neg h,if_neg h]
theorem zFi {x:Nat} (h:x<18446744073709551616):XC x=decide (9223372036854775808≤x):=by
 unfold XC
 congr 1
 simp only [IntKind.wrap,IntKind.bits,IntKind.signed,Bool.true_and,eq_iff_iff]
 split <;> rename_i h' <;> simp at h' <;> omega
def vN (x:Nat):Int:=if isNaN x then 9223372036854775808 else if sn x then -(rg x:Int)-1 else rg x
theorem FZ {x:Nat} (hn:isNaN x=false):vN x≤9218868437227405312:=by
 unfold vN
 rw [hn]
 rw [nA] at hn
 have:=of_decide_eq_false hn
 simp only [Bool.false_eq_true,if_false]
 split <;> omega
theorem zKM (p q:Int):(some (QZ p q) == some Ordering.lt)=decide (p<q):=by
 unfold QZ
 by_cases h:p<q
 ·rw [if_pos h,decide_eq_true h];rfl
 ·rw [if_neg h,decide_eq_false h];split <;> rfl
theorem zJF (p q:Int):(some (QZ p q) == some Ordering.gt)=decide (q<p):=by
 unfold QZ
 by_cases h:p<q
 ·rw [if_pos h,decide_eq_false (by omega)];rfl
 ·rw [if_neg h]
  by_cases h':p=q
  ·rw [if_pos h',decide_eq_false (by omega)];rfl
  ·rw [if_neg h',decide_eq_true (by omega)];rfl
theorem zDb (p q:Int):(LO p q == 0)=decide (p=q):=by
 unfold LO
 by_cases h:p<q
 ·rw [if_pos h,decide_eq_false (by omega)];rfl
 ·rw [if_neg h]
  by_cases h':q<p
  ·rw [if_pos h',decide_eq_false (by omega)];rfl
  ·rw [if_neg h',decide_eq_true (by omega)];rfl
theorem XB {x y:Nat} (hx:x<18446744073709551616) (hy:y<18446744073709551616):mR x y=LO (vN x) (vN y):=by
 have w2:IntKind.i64.wrap (1+1)=2:=by decide
 have w1:IntKind.i64.wrap (1+0)=1:=by decide
 have w1':IntKind.i64.wrap (0+1)=1:=by decide
 have w0:IntKind.i64.wrap (0+0)=0:=by decide
 have s1:∀ z,isNaN z=true→jV z=(1,0):=fun z h=>by unfold jV;rw [if_pos h]
 have s0:∀ z,z<18446744073709551616→isNaN z=false→(jV z).1=0∧(jV z).2=if rg z=0∧sn z=true then -1 else 0:=by
  intro z hz h
  have hr:rg z≤9218868437227405312:=by rw [nA] at h;have:=of_decide_eq_false h;omega
  have e:(HZ z 0 == some Ordering.eq)=decide (rg z=0):=by
   rw [EJ hr (by decide)]
   have:sg (sn 0) (rg 0)=0:=by decide
   rw [this]
   by_cases hz:rg z=0
   ·rw [hz,decide_eq_true rfl]
    cases sn z <;> rfl
   ·rw [decide_eq_false hz]
    unfold QZ sg
    cases sn z <;> simp only [Bool.false_eq_true,if_false,if_true]
    ·rw [if_neg (by omega),if_neg (by omega)];rfl
    ·rw [if_pos (by omega)];rfl
  have e2:XC z=sn z:=by
   rw [zFi hz]
   unfold sn
   rcases Nat.lt_or_ge z 9223372036854775808 with h'|h'
   ·have:z / 9223372036854775808=0:=by omega
    rw [this,decide_eq_false (by omega)];rfl
   ·have:z / 9223372036854775808=1:=by omega
    rw [this,decide_eq_true h'];rfl
  unfold jV
  rw [h,e,e2]
  simp only [Bool.false_eq_true,if_false]
  by_cases hz0:rg z=0 <;> cases hsn:sn z <;> simp [hz0]
 unfold mR
 by_cases h1:isNaN x=true <;> by_cases h2:isNaN y=true
 ·rw [s1 x h1,s1 y h2];simp only [w2]
  rw [if_pos (by decide)]
  unfold vN;rw [if_pos h1,if_pos h2];rfl
 ·have h2':isNaN y=false:=by simpa using h2
  rw [s1 x h1,(s0 y hy h2').1];simp only [w1]
  rw [if_pos (by decide)]
  have:=FZ h2'
  unfold LO
  have e:vN x=9223372036854775808:=by unfold vN;rw [if_pos h1]
  rw [e,if_neg (by omega),if_pos (by omega),if_neg (by omega),if_pos (by omega)]
 ·have h1':isNaN x=false:=by simpa using h1
  rw [s1 y h2,(s0 x hx h1').1];simp only [w1']
  rw [if_pos (by decide)]
  have:=FZ h1'
  unfold LO
  have e:vN y=9223372036854775808:=by unfold vN;rw [if_pos h2]
  rw [e,if_pos (by omega),if_pos (by omega)]
 ·have h1':isNaN x=false:=by simpa using h1
  have h2':isNaN y=false:=by simpa using h2
  rw [(s0 x hx h1').1,(s0 y hy h2').1,(s0 x hx h1').2,(s0 y hy h2').2,w0,if_neg (by decide)]
  have hr1:rg x≤9218868437227405312:=by rw [nA] at h1';have:=of_decide_eq_false h1';omega
  have hr2:rg y≤9218868437227405312:=by rw [nA] at h2';have:=of_decide_eq_false h2';omega
  have ef:zJx x y=LO (sg (sn x) (rg x)) (sg (sn y) (rg y)):=by
   unfold zJx
   rw [h1',h2',EJ hr1 hr2,zKM,zJF]
   unfold LO
   simp only [Bool.false_eq_true,if_false,decide_eq_true_eq]
  rw [ef,zDb]
  unfold vN
  rw [h1',h2']
  simp only [Bool.false_eq_true,if_false,decide_eq_true_eq]
  unfold LO sg
  cases sn x <;> cases sn y <;> simp only [Bool.false_eq_true,if_false,if_true,and_false,and_true] <;> (repeat' split) <;> first|rfl|omega
theorem QG {x y:Nat} (hx:x<18446744073709551616) (hy:y<18446744073709551616):(mR x y == 0)=(dD x == dD y):=by
 rw [XB hx hy]
 have e:(LO (vN x) (vN y) == 0)=decide (vN x=vN y):=by
  unfold LO
  by_cases h:vN x<vN y
  ·rw [if_pos h,decide_eq_false (by omega)];rfl
  ·rw [if_neg h]
   by_cases h':vN y<vN x
   ·rw [if_pos h',decide_eq_false (by omega)];rfl
   ·rw [if_neg h',decide_eq_true (by omega)];rfl
 rw [e]
 unfold dD
 by_cases h1:isNaN x=true <;> by_cases h2:isNaN y=true
 ·unfold vN;simp only [if_pos h1,if_pos h2];simp
 ·have:=FZ (x:=y) (by simpa using h2)
  have e:vN x=9223372036854775808:=by unfold vN;rw [if_pos h1]
  rw [e,if_pos h1,if_neg h2,decide_eq_false (by omega)]
  symm
  rw [beq_eq_false_iff_ne]
  intro h
  exact h2 (h▸xM)
 ·have:=FZ (x:=x) (by simpa using h1)
  have e:vN y=9223372036854775808:=by unfold vN;rw [if_pos h2]
  rw [e,if_neg h1,if_pos h2,decide_eq_false (by omega)]
  symm
  rw [beq_eq_false_iff_ne]
  intro h
  exact h1 (h▸xM)
 ·rw [if_neg h1,if_neg h2]
  rw [Bool.eq_iff_iff,decide_eq_true_iff,beq_iff_eq]
  unfold vN
  rw [if_neg h1,if_neg h2]
  constructor
  ·intro h
   have ex:x=(if sn x then 9223372036854775808 else 0)+rg x:=by
    unfold sn rg
    rcases Nat.lt_or_ge x 9223372036854775808 with h'|h'
    ·have:x / 9223372036854775808=0:=by omega
     rw [this];simp;omega
    ·have:x / 9223372036854775808=1:=by omega
     rw [this];simp;omega
   have ey:y=(if sn y then 9223372036854775808 else 0)+rg y:=by
    unfold sn rg
    rcases Nat.lt_or_ge y 9223372036854775808 with h'|h'
    ·have:y / 9223372036854775808=0:=by omega
     rw [this];simp;omega
    ·have:y / 9223372036854775808=1:=by omega
     rw [this];simp;omega
   rw [ex,ey]
   have l1:=zJU x
   have l2:=zJU y
   cases hsx:sn x <;> cases hsy:sn y <;> simp only [hsx,hsy,Bool.false_eq_true,if_false,if_true] at h ⊢ <;> omega
  ·intro h;subst h;rfl
end Go.Dm
end
section
namespace Go.Dm
open Go
structure Nd where
 k:Int
 m:Int
 t:Nat
 d:List UInt8
abbrev ndc (k m:Int) (t:Nat) (d:List UInt8):List CV:=[.p (.i .i64 k),.p (.i .i64 m),.p (.f t),.p (.sl 1 (cB d))]
abbrev Nd.cv (x:Nd):List CV:=[.p (.i .i64 x.k),.p (.i .i64 x.m),.p (.f x.t),.p (.sl 1 (cB x.d))]
attribute [go_sem] Nd.cv ndc
theorem zHk (x:Nd):Nd.mk x.k x.m x.t x.d=x:=rfl
attribute [go_sem] zHk
def rC (x y:Nd):Bool:=x.k == y.k && x.m == y.m && (mR x.t y.t == 0) && x.d == y.d
def jF (x y:Nd):Bool:=x.k == y.k && x.m == y.m && x.d == y.d && (dD x.t == dD y.t)
def zCI (x y:Nd):Bool:=x.k == y.k && x.d == y.d
def Nd.ok (x:Nd):Prop:=x.d.length≤140737488355328
def zBH (base alike o t:Bool):Int:=if alike || base && t then 1 else if base && o then 2 else 0
def zBb (x y:Nd) (p q:Bool):Bool:=p == q && (!p || rC x y)
def nd0:Nd:=⟨0,0,0,[]⟩
def uP (base o t:Nd) (b:Bool):Nd × Bool :=
 let w:=zBH b (zCI o t) (zCI base o) (zCI base t)
 let m:=zBH b (o.m == t.m) (base.m == o.m) (base.m == t.m)
 let c:=zBH b (mR o.t t.t == 0) (mR base.t o.t == 0) (mR base.t t.t == 0)
 (⟨if w == 2 then t.k else o.k,if m == 2 then t.m else o.m,if c == 2 then t.t else if c == 0 then uT o.t t.t else o.t,if w == 2 then t.d else o.d⟩,w != 0 && m != 0)
def wY (base o t:Nd) (b isO isT:Bool):Nd × Bool × Int :=
 if zBb o t isO isT || zBb base t b isT then (if isO then o else nd0,isO,0)
 else if zBb base o b isO then (if isT then t else nd0,isT,0)
 else if !isO then (nd0,false,3)
 else if !isT then (nd0,false,2)
 else if (uP base o t b).2 then ((uP base o t b).1,true,0)
 else if !b then (nd0,false,5)
 else if o.k != t.k then (nd0,false,4)
 else (nd0,false,1)
end Go.Dm
end
section
namespace Go.Dm
open Go
structure RN where
 k:Int
 m:Int
 t:Int
 x:Nat
 d:List UInt8
abbrev rnc (k m t:Int) (x:Nat) (d:List UInt8):List CV:=[.p (.i .i64 k),.p (.i .i64 m),.p (.i .i64 t),.p (.f x),.p (.sl 1 (cB d))]
attribute [go_sem] rnc
end Go.Dm
end
section
namespace Go.Dm
open Go
def Nd.wf (x:Nd):Prop:=x.t<18446744073709551616
theorem qT {x y:Nd} (hx:x.wf) (hy:y.wf):rC x y=jF x y:=by
 unfold rC jF
 rw [QG hx hy]
 cases x.k == y.k <;> cases x.m == y.m <;> cases x.d == y.d <;> cases dD x.t == dD y.t <;> rfl
theorem xJ (x:Nd):jF x x=true:=by simp [jF]
end Go.Dm
end
section
namespace Go.Dm
open Go
structure It where
 p:List UInt8
 n:Nd
def It.cs (x:It):List PV:=[.s x.p,.i .i64 x.n.k,.i .i64 x.n.m,.f x.n.t,.sl 1 (cB x.n.d)]
def aV (t:List It):List (List PV):=t.map It.cs
theorem cU (t:List It):(aV t).length=t.length:=by simp [aV]
theorem vP:aV []=[]:=rfl
theorem zGp (a b:List It):aV a++aV b=aV (a++b):=by simp [aV]
theorem yK (a:List It) (n:Nat):(aV a).take n=aV (a.take n):=by simp [aV]
theorem zA0 (a:List It) (n:Nat):(aV a).drop n=aV (a.drop n):=by simp [aV]
theorem zFj (t:List It):(∀ x∈aV t,x.length=5)=True:=eq_true fun x hx=>by
 simp only [aV,List.mem_map] at hx
 obtain ⟨y,_,rfl⟩:=hx
 rfl
theorem cZ {t:List It} {k:Nat} {x:It} (h:t[k]? = some x):(aV t).getD k []=[.s x.p,.i .i64 x.n.k,.i .i64 x.n.m,.f x.n.t,.sl 1 (cB x.n.d)]:=by
 simp only [aV,List.getD_eq_getElem?_getD,List.getElem?_map,h]
 rfl
theorem zDI (t:List It) (p:List UInt8) (k m:Int) (tt:Nat) (d:List UInt8):aV t++[[.s p,.i .i64 k,.i .i64 m,.f tt,.sl 1 (cB d)]]=aV (t++[⟨p,⟨k,m,tt,d⟩⟩]):=by simp [aV,It.cs]
theorem zKY (x:It):It.mk x.p x.n=x:=rfl
attribute [go_sem] cU vP zGp yK zA0 zFj zDI zKY Nat.sub_zero
theorem drop_at {α:Type} {l:List α} {k:Nat} {x:α} (h:l[k]? = some x):l.drop k=x::l.drop (k+1):=by
 have:=List.getElem?_eq_some_iff.1 h
 obtain ⟨h1,h2⟩:=this
 rw [← h2];exact List.drop_eq_getElem_cons h1
def aP (p q:List UInt8):Bool:=if p == [] then !(q == []) else (decide ((q.length:Int) > p.length+1) && q.take (p.length+1) == p++[47]) || (decide ((q.length:Int)=p.length+1) && q == p++[47])
def cA (t:List It) (p:List UInt8):List It:=t.filter fun x=>!aP p x.p
def eG (p:List UInt8):Nat→Option Nat
 | 0=>none
 | j+1=>if ((p.getD j 0).toNat:Int) == 47 then some j else eG p j
def aR (p:List UInt8):List UInt8:=match eG p p.length with
 | some j=>p.take j
 | none=>[]
def zAB (b:UInt8):Bool:=!(((b.toNat:Int) == 0) || ((b.toNat:Int) == 47))
def bF (s:List UInt8):Bool:=s.all zAB && (decide ((1:Int)≤s.length) && decide ((s.length:Int)≤24) && !(s == [46]) && !(s == [46,46]))
def AN:List UInt8→List UInt8→List (List UInt8)
 | w,[]=>[w]
 | w,b::r=>if ((b.toNat:Int) == 47) then w::AN [] r else AN (w++[b]) r
def GO (s:List UInt8):List (List UInt8):=AN [] s
def cG (p:List UInt8):Bool:=p == [] || ((GO p).all bF && decide ((p.length:Int)≤120))
def encS (l:List (List UInt8)):List (List PV):=l.map fun s=>[.s s]
theorem gC (t:List (List UInt8)):(encS t).length=t.length:=by simp [encS]
theorem rP:encS []=[]:=rfl
theorem zEM (a b:List (List UInt8)):encS a++encS b=encS (a++b):=by simp [encS]
theorem zBO (a:List (List UInt8)) (n:Nat):(encS a).take n=encS (a.take n):=by simp [encS]
theorem zCg (a:List (List UInt8)) (n:Nat):(encS a).drop n=encS (a.drop n):=by simp [encS]
theorem zF3 (t:List (List UInt8)):(∀ x∈encS t,x.length=1)=True:=eq_true fun x hx=>by
 simp only [encS,List.mem_map] at hx
 obtain ⟨y,_,rfl⟩:=hx
 rfl
theorem encS_at {t:List (List UInt8)} {k:Nat} {x:List UInt8} (h:t[k]? = some x):(encS t).getD k []=[.s x]:=by
 simp only [encS,List.getD_eq_getElem?_getD,List.getElem?_map,h]
 rfl
theorem ZO (t:List (List UInt8)) (p:List UInt8):encS t++[[.s p]]=encS (t++[p]):=by simp [encS]
attribute [go_sem] gC rP zEM zBO zCg zF3 ZO
theorem rF:∀ (s w:List UInt8),(AN w s).length≤s.length+1
 | [],w=>by simp [AN]
 | b::r,w=>by
  simp only [AN]
  split
  ·have:=rF r [];simp;omega
  ·have:=rF r (w++[b]);simp;omega
theorem wA:∀ (s w:List UInt8) (x:List UInt8),x∈AN w s→x.length≤w.length+s.length
 | [],w,x,h=>by simp [AN] at h;subst h;simp
 | b::r,w,x,h=>by
  simp only [AN] at h
  split at h
  ·rcases List.mem_cons.1 h with rfl|h
   ·simp
   ·have:=wA r [] x h;simp at this ⊢;omega
  ·have:=wA r (w++[b]) x h;simp at this ⊢;omega
def aQ:List It→List UInt8→Option Nd
 | [],_=>none
 | x::r,p=>if x.p == p then some x.n else aQ r p
def aY (t:List It) (p:List UInt8):Bool:=p == [] || (match aQ t p with
 | some n=>n.k == 2
 | none=>false)
def zX (p:List UInt8) (n:Nd):Bool→List It→List It
 | done,[]=>if done then [] else [⟨p,n⟩]
 | done,x::r=>(if !done && !bL x.p p then [⟨p,n⟩] else [])++((if !(x.p == p) then [x] else [])++zX p n (done || !bL x.p p) r)
def uV (t:List It) (p:List UInt8) (n:Nd):List It:=zX p n false t
def qE (t:List It) (p:List UInt8):List It:=t.filter fun x=>!(x.p == p)
def bZ (t:List It) (p:List UInt8):List It:=qE (cA t p) p
def nQ (b:List UInt8):Bool:=b.all (fun b=>!((b.toNat:Int) == 0)) && (decide ((1:Int)≤b.length) && decide ((b.length:Int)≤120))
theorem kC (n:Nat) (h:n<9223372036854775808):IntKind.i64.wrap (no_index (OfNat.ofNat n))=OfNat.ofNat n:=wrap_i64 (by show _≤(n:Int);omega) (by show (n:Int)≤_;omega)
theorem YP (z:Int):(0≤IntKind.u8.wrap z)=True:=eq_true (by
 simp only [IntKind.wrap,IntKind.bits,IntKind.signed,Bool.false_and]
 split <;> rename_i h
 ·simp at h
 ·exact Int.emod_nonneg _ (by decide))
theorem YS (z:Int):(IntKind.u8.wrap z≤255)=True:=eq_true (by
 simp only [IntKind.wrap,IntKind.bits,IntKind.signed,Bool.false_and]
 split <;> rename_i h
 ·simp at h
 ·have:=Int.emod_lt_of_pos z (show (0:Int)<2 ^ 8 by decide);omega)
attribute [go_sem] YP YS
def vC (x:Nat) (k:Nat):UInt8:=UInt8.ofNat (IntKind.u8.wrap ((x:Int).fdiv (2 ^ k))).toNat
def KU (x:Nat):List UInt8:=[vC x 56,vC x 48,vC x 40,vC x 32,vC x 24,vC x 16,vC x 8,vC x 0]
def CA (x:Nat):Bool:=KU x == KU (dD x)
def aT (n:Nd):Bool:=!(decide (n.m<0) || decide (4095<n.m) || !CA n.t) && (if n.k == 1 then decide ((n.d.length:Int)≤2000) else if n.k == 2 then (n.d.length:Int) == 0 else if n.k == 3 then nQ n.d else false)
def uK (t:List It) (p:List UInt8) (n:Nd):List It × Int :=
 if p == [] || !cG p || !aT n then ([],1) else if !aY t (aR p) then ([],9)
 else if decide ((120:Int)<(uV (if n.k != 2 then cA t p else t) p n).length) then ([],16) else (uV (if n.k != 2 then cA t p else t) p n,0)
theorem SD (p:List UInt8) (n:Nd):∀ (t:List It) (d:Bool),(zX p n d t).length≤t.length+(if d then 0 else 1)
 | [],d=>by cases d <;> simp [zX]
 | x::r,d=>by
  have h:=SD p n r (d || !bL x.p p)
  simp only [zX,List.length_append,List.length_cons]
  cases d <;> cases hb:bL x.p p <;> cases hp:x.p == p <;> simp [hb] at h ⊢ <;> omega
theorem vS (t:List It) (p:List UInt8) (n:Nd):(uV t p n).length≤t.length+1:=SD p n t false
theorem ED (t:List It) (p:List UInt8):(cA t p).length≤t.length:=List.length_filter_le ..
def fF (a b:List UInt8):List It→List It→List It × Int
 | out,[]=>(out,0)
 | out,x::r=>if !(x.p == a) && !aP a x.p then fF a b out r else if decide ((120:Int)<(b.length+(x.p.drop a.length).length:Nat)) then ([],12) else fF a b (uV out (b++x.p.drop a.length) x.n) r
def nE (t:List It) (a b:List UInt8):List It × Int :=
 if a == [] || b == [] || !cG a || !cG b then ([],1) else if !(aQ t a).isSome then ([],6) else if aP a b then ([],18) else if (aQ t b).isSome then ([],7) else if !aY t (aR b) then ([],9) else fF a b (bZ t a) t
theorem dW {a q:List UInt8} (h:aP a q=true):a.length≤q.length:=by
 unfold aP at h
 split at h
 ·rename_i h1;have h1:=eq_of_beq h1;subst h1;simp
 ·simp only [Bool.or_eq_true,Bool.and_eq_true,decide_eq_true_eq] at h
  omega
def zGW (R:DV→aC→Prop):Exit→DS→Prop
 | .normal,s=>R (.tup []) s.h
 | .ret,s=>R (.tup []) s.h
 | _,_=>False
theorem zGk {R:DV→aC→Prop} {s:DS}:zGW R .normal s=R (.tup []) s.h:=nr rfl
theorem zEH {R:DV→aC→Prop} {s:DS}:zGW R .ret s=R (.tup []) s.h:=nr rfl
attribute [go_sem] zGk zEH
end Go.Dm
end
end
