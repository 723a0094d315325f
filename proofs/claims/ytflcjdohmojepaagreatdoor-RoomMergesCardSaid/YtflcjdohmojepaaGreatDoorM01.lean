/- Part 2 of the proof of roomMerges_card, set without needless blanks. No condition. -/
import Derived.Test.YtflcjdohmojepaaGreatDoorM00
import Derived.Laws.StructEq
import Derived.Deep.AppendSrc
import Derived.Lib.ConvBytes
import Derived.Laws.BytesString
set_option linter.all false
set_option maxRecDepth 100000
set_option maxHeartbeats 16000000
section
section
namespace Go.Dm
open Go
inductive PV where
 | b (x:Bool)
 | i (k:IntKind) (n:Int)
 | s (l:List UInt8)
 | f (bits:Nat)
 | nil
 | sl (k:Nat) (es:List (List PV))
 | o (x:Value)
inductive KV where
 | p (x:PV)
 | ptr (id off:Nat)
inductive CV where
 | p (x:PV)
 | own (id off len:Nat)
 | ptr (id off:Nat)
 | aptr (id i j:Nat)
 | mp (id:Nat)
 | bs (id n:Nat)
 | eptr (cs:List PV)
 | full (k:Nat) (es:List (List PV))
 | clo (f:FuncId) (cap:List KV)
inductive EV where
 | c (x:CV)
 | agg (xs:List CV)
inductive DV where
 | jk
 | c (x:CV)
 | agg (xs:List CV)
 | tup (xs:List EV)
inductive DB where
 | dead
 | box (cells:List CV)
 | arr (k:Nat) (es:List (List PV)) (ro:Bool)
 | mp (es:List (Int × PV))
abbrev aD:=List DB
def DB.live:DB->Bool
 | .dead=>false
 | _=>true
def DB.fix:DB->Bool
 | .arr _ _ r=>r
 | _=>false
structure Ctx where
 w:World
 S:Nat->Prop
 G:Nat->Option (Nat × Nat)
 h:aD
mutual
def cZ(w:World)(S:Nat->Prop):PV->Value->Prop
 | .b x,v=>v=.bool x
 | .i k n,v=>v=.int k n
 | .s l,v=>v=.string ⟨l.toArray⟩
 | .f x,v=>v=.float .f64 x
 | .nil,v=>v=.slice none 0 0
 | .sl k es,v=>∃a c,v=.slice a es.length c/\es.length<=c/\(es=[]∨∃bl off,a=some ⟨bl,off,none⟩/\S bl/\fP w S k bl off es)
 | .o x,v=>v=x/\x.oneCell'=true
def gT(w:World)(S:Nat->Prop)(bl:Nat)(off:Nat):List PV->Prop
 | []=>True
 | c::cs=>(∃v,w.cell? ⟨bl,off,none⟩=some v/\cZ w S c v)/\gT w S bl (off+1) cs
def fP(w:World)(S:Nat->Prop)(k:Nat)(bl:Nat)(off:Nat):List (List PV)->Prop
 | []=>True
 | e::es=>(e.length=k/\gT w S bl off e)/\fP w S k bl (off+k) es
end
variable {S:Nat->Prop}
theorem qA{w:World}{x:PV}{v:Value}(h:cZ w S x v):v.oneCell'=true:=by
 cases x<;>simp only[cZ] at h
 case b=>subst h;rfl
 case i=>subst h;rfl
 case s=>subst h;rfl
 case f=>subst h;rfl
 case nil=>subst h;rfl
 case sl=>obtain⟨a,c,rfl,_⟩:=h;rfl
 simp_all
def Kept(w w':World)(S S':Nat->Prop):Prop:=∀b,S b->S' b/\w'.heap[b]?=w.heap[b]?
theorem Kept.cell{w w':World}{S':Nat->Prop}(h:Kept w w' S S'){b:Nat}(hb:S b)(o:Nat):w'.cell? ⟨b,o,none⟩=w.cell? ⟨b,o,none⟩ :=
 World.cell?_of_block (h b hb).2
theorem cZ.nilOf{w:World}{v:Value}(k:Nat)(h:cZ w S .nil v):cZ w S (.sl k []) v:=by
 simp only[cZ] at h ⊢;simp_all
mutual
theorem cZ.kept{w w':World}{S S':Nat->Prop}(hk:Kept w w' S S'):∀{x:PV} {v:Value},cZ w S x v->cZ w' S' x v
 | .b _,_,h=>h
 | .i _ _,_,h=>h
 | .s _,_,h=>h
 | .f _,_,h=>h
 | .nil,_,h=>h
 | .sl k es,v,h=>by
  simp only[cZ] at h ⊢;obtain⟨a,c,hv,hc,hs⟩:=h;refine⟨a,c,hv,hc,?_⟩;rcases hs with hs|⟨bl,off,ha,hb,hl⟩
  .exact .inl hs
  .exact .inr ⟨bl,off,ha,(hk bl hb).1,fP.move hk (hk bl hb).2 hl⟩
 | .o _,_,h=>h
theorem gT.move{w w':World}{S S':Nat->Prop}(hk:Kept w w' S S'){bl:Nat}(hb:w'.heap[bl]?=w.heap[bl]?):∀{off:Nat} {cs:List PV},gT w S bl off cs->gT w' S' bl off cs
 | _,[],_=>by simp only[gT]
 | off,c::cs,h=>by
  simp only[gT] at h ⊢;obtain⟨⟨v,hv,hr⟩,ht⟩:=h;exact⟨⟨v,by rw[World.cell?_of_block (a:=⟨bl,off,none⟩) hb];exact hv,cZ.kept hk hr⟩,gT.move hk hb ht⟩
theorem fP.move{w w':World}{S S':Nat->Prop}(hk:Kept w w' S S'){k bl:Nat}(hb:w'.heap[bl]?=w.heap[bl]?):∀{off:Nat} {es:List (List PV)},fP w S k bl off es->fP w' S' k bl off es
 | _,[],_=>by simp only[fP]
 | off,e::es,h=>by
  simp only[fP] at h ⊢;exact⟨⟨h.1.1,gT.move hk hb h.1.2⟩,fP.move hk hb h.2⟩
end
variable {S S':Nat->Prop}{cs:List PV}
theorem gT.kept{w w':World}(hk:Kept w w' S S'){bl:Nat}(hb:S bl){off:Nat}(h:gT w S bl off cs):gT w' S' bl off cs:=h.move hk (hk bl hb).2
theorem fP.kept{w w':World}(hk:Kept w w' S S'){k bl:Nat}(hb:S bl){off:Nat}{es:List (List PV)}(h:fP w S k bl off es):fP w' S' k bl off es:=h.move hk (hk bl hb).2
theorem gT.at_{w:World}{bl:Nat}:∀{cs:List PV} {off j:Nat} {c:PV},gT w S bl off cs->cs[j]?=some c->∃v,w.cell? ⟨bl,off+j,none⟩=some v/\cZ w S c v
 | [],_,_,_,_,h=>by simp at h
 | c::cs,off,0,d,h,hj=>by
  simp only[gT] at h;simp_all
 | c::cs,off,j+1,d,h,hj=>by
  obtain⟨v,h1,h2⟩:=gT.at_ h.2 hj;grind
theorem gT.mk{w:World}{bl:Nat}:∀{cs:List PV} {off:Nat},(∀j c,cs[j]?=some c->∃v,w.cell? ⟨bl,off+j,none⟩=some v/\cZ w S c v)->gT w S bl off cs
 | [],_,_=>by simp only[gT]
 | c::cs,off,h=>by
  refine⟨by simpa using h 0 c rfl,gT.mk λj d hj=>?_⟩
  obtain⟨v,h1,h2⟩:=h (j+1) d (by simpa using hj);grind
theorem gT.drop{w:World}{bl:Nat}{off:Nat}(h:gT w S bl off cs)(n:Nat):gT w S bl (off+n) (cs.drop n) :=
 gT.mk λj c hj=>by
  rw[List.getElem?_drop] at hj;obtain⟨v,h1,h2⟩:=h.at_ hj;grind
theorem gT.take{w:World}{bl:Nat}{off:Nat}(h:gT w S bl off cs)(n:Nat):gT w S bl off (cs.take n) :=
 gT.mk λj c hj=>by
  rw[List.getElem?_take] at hj;split at hj
  .exact h.at_ hj
  .simp at hj
theorem fP.at_{w:World}{k bl:Nat}:∀{es:List (List PV)} {off j:Nat} {e:List PV},fP w S k bl off es->es[j]?=some e->e.length=k/\gT w S bl (off+j*k) e
 | [],_,_,_,_,h=>by simp at h
 | c::cs,off,0,d,h,hj=>by
  simp only[fP] at h;simp_all
 | c::cs,off,j+1,d,h,hj=>by
  obtain⟨h1,h2⟩:=fP.at_ h.2 hj;grind
theorem fP.mk{w:World}{k bl:Nat}:∀{es:List (List PV)} {off:Nat},(∀j e,es[j]?=some e->e.length=k/\gT w S bl (off+j*k) e)->fP w S k bl off es
 | [],_,_=>by simp only[fP]
 | c::cs,off,h=>by
  refine⟨by simpa using h 0 c rfl,fP.mk λj d hj=>?_⟩
  obtain⟨h1,h2⟩:=h (j+1) d (by simpa using hj);grind
theorem fP.drop{w:World}{k bl:Nat}{es:List (List PV)}{off:Nat}(h:fP w S k bl off es)(n:Nat):fP w S k bl (off+n*k) (es.drop n) :=
 fP.mk λj c hj=>by
  rw[List.getElem?_drop] at hj;obtain⟨h1,h2⟩:=h.at_ hj;grind
theorem fP.take{w:World}{k bl:Nat}{es:List (List PV)}{off:Nat}(h:fP w S k bl off es)(n:Nat):fP w S k bl off (es.take n) :=
 fP.mk λj c hj=>by
  rw[List.getElem?_take] at hj;split at hj
  .exact h.at_ hj
  .simp_all
end Go.Dm
end
section
namespace Go.Dm
open Go
variable {X X':Ctx}{fz:Nat × Nat}{S S':Nat->Prop}{c:World}{id:Nat}{db:DB}
def sD(X:Ctx):KV->Value->Prop
 | .p x,v=>cZ X.w X.S x v
 | .ptr id off,v=>id<X.h.length/\v.oneCell'=true/\∀cells,X.h[id]?=some (.box cells)->∃g,X.G id=some g/\v=.pointer (some ⟨g.1,g.2+off,none⟩)
def fQ(X:Ctx):List KV->List Value->Prop
 | [],[]=>True
 | c::cs,v::vs=>sD X c v/\fQ X cs vs
 | _,_=>False
def cA(X:Ctx):CV->Value->Prop
 | .p x,v=>cZ X.w X.S x v
 | .own id off len,v=>id<X.h.length/\v.oneCell'=true/\∀k es ro,X.h[id]?=some (.arr k es ro) ->
   off+len<=es.length/\(match X.G id with
    | none=>v=.slice none 0 0
    | some g=>∃cap o arr el fz,X.w.heap[g.1]?=some (.cells arr el fz)/\v=.slice (some ⟨g.1,o,none⟩) len cap/\(cap=0∨o=g.2+off*k)/\len<=cap/\cap<=maxLen/\g.2+(off+cap)*k<=arr.size)
 | .ptr id off,v=>id<X.h.length/\v.oneCell'=true/\∀cells,X.h[id]?=some (.box cells)->∃g,X.G id=some g/\v=.pointer (some ⟨g.1,g.2+off,none⟩)
 | .aptr id i j,v=>id<X.h.length/\v.oneCell'=true/\∀k es ro,X.h[id]?=some (.arr k es ro)->∃g,X.G id=some g/\v=.pointer (some ⟨g.1,g.2+i*k+j,none⟩)
 | .bs id n,v=>id<X.h.length/\v.oneCell'=true/\∀cells,X.h[id]?=some (.box cells)->∃g,X.G id=some g/\v=.slice (some ⟨g.1,g.2,none⟩) n n
 | .mp id,v=>id<X.h.length/\v.oneCell'=true/\∀es,X.h[id]?=some (.mp es)->∃g,X.G id=some g/\v=.map (some g.1)
 | .eptr cs,v=>∃bl off,v=.pointer (some ⟨bl,off,none⟩)/\X.S bl/\gT X.w X.S bl off cs
 | .full k es,v=>∃a,v=.slice a es.length es.length/\(es=[]∨∃bl off,a=some ⟨bl,off,none⟩/\X.S bl/\fP X.w X.S k bl off es)
 | .clo f cap,v=>∃vs:List Value,v=.func (.func f) #[] vs.toArray/\fQ X cap vs
def bF(X:Ctx):List CV->List Value->Prop
 | [],[]=>True
 | c::cs,v::vs=>cA X c v/\bF X cs vs
 | _,_=>False
def eD(X:Ctx):EV->Value->Prop
 | .c x,v=>cA X x v
 | .agg xs,v=>∃vs:List Value,v=.agg vs.toArray/\bF X xs vs
def cO(X:Ctx):List EV->List Value->Prop
 | [],[]=>True
 | c::cs,v::vs=>eD X c v/\cO X cs vs
 | _,_=>False
def bD(X:Ctx):DV->Value->Prop
 | .jk,_=>True
 | .c x,v=>cA X x v
 | .agg xs,v=>∃vs:List Value,v=.agg vs.toArray/\bF X xs vs
 | .tup xs,v=>∃vs:List Value,v=.tuple vs.toArray/\cO X xs vs
def dI(X:Ctx):List DV->List Value->Prop
 | [],[]=>True
 | c::cs,v::vs=>bD X c v/\dI X cs vs
 | _,_=>False
theorem pZ{x:CV}{v:Value}(h:cA X x v):v.oneCell'=true:=by
 cases x<;>simp only[cA] at h
 case p=>exact qA h
 case own=>exact h.2.1
 case ptr=>exact h.2.1
 case aptr=>exact h.2.1
 case mp=>exact h.2.1
 case bs=>exact h.2.1
 case eptr=>obtain⟨_,_,rfl,_⟩:=h;rfl
 case full=>obtain⟨_,rfl,_⟩:=h;rfl
 case clo=>obtain⟨_,rfl,_⟩:=h;rfl
def ZQ(fz:Nat × Nat)(_lo hi:Nat):Prop:=fz.1=fz.2∨hi<=fz.1
theorem ZQ.at_{lo hi:Nat}(h:ZQ fz lo hi)(o:Nat)(_:lo<=o)(h2:o<hi):¬ (fz.1<=o/\o<fz.2):=by
 rcases h with h|h<;>omega
def tQ(k:Nat)(fz:Nat × Nat)(lo hi:Nat):Prop:=ZQ fz lo hi/\(k=1∨fz.1=fz.2)
theorem tQ.at_{k:Nat}{lo hi:Nat}(h:tQ k fz lo hi)(o:Nat)(h1:lo<=o)(h2:o<hi):¬ (fz.1<=o/\o<fz.2):=h.1.at_ o h1 h2
theorem tQ.zero(k lo hi:Nat):tQ k (0,0) lo hi:=⟨.inl rfl,.inr rfl⟩
def cU(X:Ctx)(bl:Nat):Nat->List CV->Prop
 | _,[]=>True
 | off,c::cs=>(∃v,X.w.cell? ⟨bl,off,none⟩=some v/\cA X c v)/\cU X bl (off+1) cs
def zX(w:World)(S:Nat->Prop):List (Int × PV)->List MapEntry->Prop
 | [],[]=>True
 | e::es,m::ms=>(m.key=.int .i64 e.1/\cZ w S e.2 m.val)/\zX w S es ms
 | _,_=>False
def zC9(ms:List MapEntry)(c:Nat):Prop:=ms.Pairwise (λa b=>a.born<b.born)/\∀e∈ms,e.born<c
theorem zX.kept{w w':World}(hk:Kept w w' S S'):∀{es:List (Int × PV)} {ms:List MapEntry},zX w S es ms->zX w' S' es ms
 | [],[],_=>True.intro
 | _::_,_::_,h=>⟨⟨h.1.1,h.1.2.kept hk⟩,zX.kept hk h.2⟩
 | [],_::_,h=>h.elim
 | _::_,[],h=>h.elim
def zHY(w:World)(S:Nat->Prop)(es:List (Int × PV))(ms:List MapEntry):Prop:=∃es':List (Int × PV),es'.Perm es/\(es'.map (·.1)).Nodup/\zX w S es' ms
theorem zHY.kept{w w':World}(hk:Kept w w' S S'){es:List (Int × PV)}{ms:List MapEntry}:zHY w S es ms->zHY w' S' es ms :=
 λ⟨es',h1,h2,h3⟩=>⟨es',h1,h2,h3.kept hk⟩
def eC(X:Ctx)(id:Nat):DB->Prop
 | .dead=>True
 | .box cells=>∃g arr el fz,X.G id=some g/\X.w.heap[g.1]?=some (.cells arr el fz)/\g.2+cells.length<=arr.size/\ZQ fz g.2 arr.size/\cU X g.1 g.2 cells
 | .arr k es _=>(X.G id=none/\es=[])∨∃g arr el fz,X.G id=some g/\X.w.heap[g.1]?=some (.cells arr el fz)/\g.2+es.length*k<=arr.size/\tQ k fz g.2 arr.size/\fP X.w X.S k g.1 g.2 es
 | .mp es=>∃g ms c,X.G id=some g/\X.w.heap[g.1]?=some (.map ms c)/\zHY X.w X.S es ms.toList/\zC9 ms.toList c
structure HInv (X:Ctx):Prop where
 slt:∀b,X.S b->b<X.w.heap.size
 blk:∀id db,X.h[id]?=some db->eC X id db
 own:∀id db g,X.h[id]?=some db->db.live=true->X.G id=some g->(db.fix=false->¬ X.S g.1)/\(db.fix=true->X.S g.1)
 inj:∀id db id' db' g g',X.h[id]?=some db->db.live=true->db.fix=false->X.h[id']?=some db'->db'.live=true->X.G id=some g->X.G id'=some g'->g.1=g'.1->id=id'
def cM: DB->DB->Prop
 | .box _,.box _=>True
 | .arr k es _,.arr k' es' _=>k'=k/\es.length<=es'.length
 | .mp _,.mp _=>True
 | _,_=>False
def vT(o o':Option Obj):Prop:=(∃arr el fz arr' el' fz',o=some (.cells arr el fz)/\o'=some (.cells arr' el' fz')/\arr'.size=arr.size)∨∃es c es' c',o=some (.map es c)/\o'=some (.map es' c')
theorem vT.some{o o':Option Obj}(h:vT o o'):∃x,o=some x:=by
 rcases h with⟨_,_,_,_,_,_,rfl,_⟩|⟨_,_,_,_,rfl,_⟩<;>exact⟨_,rfl⟩
def tM(w w':World):Prop:=w'.output=w.output/\w.drawn<=w'.drawn
theorem tM.rfl'{w:World}:tM w w:=⟨rfl,Nat.le_refl _⟩
theorem tM.trans{a b:World}(h:tM a b)(k:tM b c):tM a c:=⟨k.1.trans h.1,Nat.le_trans h.2 k.2⟩
structure Step (X X':Ctx):Prop where
 size:X.w.heap.size<=X'.w.heap.size
 os:X'.w.os=X.w.os
 tape:X'.w.tape=X.w.tape
 output:tM X.w X'.w
 kept:Kept X.w X'.w X.S X'.S
 len:X.h.length<=X'.h.length
 ids:∀id db',id<X.h.length->X'.h[id]?=some db'->db'.live=true->∃db,X.h[id]?=some db/\cM db db'/\X'.G id=X.G id/\∀g,X.G id=some g->vT (X.w.heap[g.1]?) (X'.w.heap[g.1]?)
 frame:∀b,b<X.w.heap.size->(∀id db g,X.h[id]?=some db->db.live=true->db.fix=false->X.G id=some g->g.1≠b)->X'.w.heap[b]?=X.w.heap[b]?
 mine:∀id db g,X'.h[id]?=some db->db.live=true->db.fix=false->X'.G id=some g->X.w.heap.size<=g.1∨∃id0 db0 g0,X.h[id0]?=some db0/\db0.live=true/\db0.fix=false/\X.G id0=some g0/\g0.1=g.1
 upper:∀b,X'.S b->X.S b∨X.w.heap.size<=b∨∃id db g,X.h[id]?=some db/\db.live=true/\X.G id=some g/\g.1=b
theorem cM.live{a b:DB}(h:cM a b):a.live=true:=by cases a<;>cases b<;>simp_all[cM,DB.live]
theorem cM.trans{a b c:DB}(h:cM a b)(k:cM b c):cM a c:=by
 cases a<;>cases b<;>cases c<;>simp_all[cM];omega
theorem vT.trans{a b c:Option Obj}(h:vT a b)(k:vT b c):vT a c:=by
 rcases h with⟨a1,e1,f1,a2,e2,f2,rfl,rfl,hs⟩|⟨a1,c1,a2,c2,rfl,rfl⟩
 .rcases k with⟨a3,e3,f3,a4,e4,f4,h3,rfl,hs'⟩|⟨_,_,_,_,h3,_⟩
  .injection h3 with h3;injection h3 with h3 _ _;subst h3;exact .inl ⟨_,_,_,_,_,_,rfl,rfl,hs'.trans hs⟩
  .cases h3
 .rcases k with⟨_,_,_,_,_,_,h3,_⟩|⟨_,_,_,_,_,rfl⟩
  .cases h3
  .exact .inr ⟨_,_,_,_,rfl,rfl⟩
theorem Kept.refl(w:World)(S:Nat->Prop):Kept w w S S:=λ_ h=>⟨h,rfl⟩
theorem Kept.trans{a b:World}{T U:Nat->Prop}(h:Kept a b S T)(k:Kept b c T U):Kept a c S U :=
 λx hx=>⟨(k x (h x hx).1).1,(k x (h x hx).1).2.trans (h x hx).2⟩
theorem aK{α:Type}{l:List α}{i:Nat}{x:α}(h:l[i]?=some x):i<l.length:=(List.getElem?_eq_some_iff.1 h).1
theorem eC.same(h:eC X id db)(hl:db.live=true):∀g,X.G id=some g->vT (X.w.heap[g.1]?) (X.w.heap[g.1]?):=by
 intro g hg;cases db<;>simp only[DB.live,eC,Bool.false_eq_true] at hl h
 case box=>obtain⟨g',arr,el,fz,h0,h,_⟩:=h;rw[h0] at hg;cases hg;exact .inl ⟨_,_,_,_,_,_,h,h,rfl⟩
 case arr =>
  rcases h with h|⟨g',arr,el,fz,h0,h,_⟩
  .simp_all
  .rw[h0] at hg;cases hg;exact .inl ⟨_,_,_,_,_,_,h,h,rfl⟩
 case mp=>obtain⟨g',ms,c,h0,h,_⟩:=h;rw[h0] at hg;cases hg;exact .inr ⟨_,_,_,_,h,h⟩
theorem cM.refl{a:DB}(h:a.live=true):cM a a:=by cases a<;>simp_all[cM,DB.live]
theorem Step.refl(hi:HInv X):Step X X where
 size:=Nat.le_refl _
 os:=rfl
 tape:=rfl
 output:=tM.rfl'
 kept:=Kept.refl _ _
 len:=Nat.le_refl _
 ids:=λid db' _ h hl=>⟨db',h,cM.refl hl,rfl,(hi.blk id db' h).same hl⟩
 frame:=λ_ _ _=>rfl
 mine:=λid db g h hl hf hg=>.inr ⟨id,db,g,h,hl,hf,hg,rfl⟩
 upper:=λ_ h=>.inl h
theorem HInv.block_lt(hi:HInv X){g:Nat × Nat}(h:X.h[id]?=some db)(hl:db.live=true)(hg:X.G id=some g):g.1<X.w.heap.size:=by
 obtain⟨a,he⟩:=((hi.blk id db h).same hl g hg).some;grind
theorem sD.step(hs:Step X X'){x:KV}{v:Value}(h:sD X x v):sD X' x v:=by
 cases x<;>simp only[sD] at h ⊢
 case p=>exact cZ.kept hs.kept h
 case ptr id off =>
  obtain⟨h1,h2,h3⟩:=h;refine⟨Nat.lt_of_lt_of_le h1 hs.len,h2,λcells hc=>?_⟩;obtain⟨db,hd,hsb,hg,_⟩:=hs.ids id _ h1 hc rfl;cases db<;>simp only[cM] at hsb;simp_all
theorem fQ.step(hs:Step X X'):∀{xs:List KV} {vs:List Value},fQ X xs vs->fQ X' xs vs
 | [],[],_=>True.intro
 | _::_,_::_,h=>⟨h.1.step hs,fQ.step hs h.2⟩
 | [],_::_,h=>h.elim
 | _::_,[],h=>h.elim
theorem cA.step(hs:Step X X'){x:CV}{v:Value}(h:cA X x v):cA X' x v:=by
 cases x<;>simp only[cA] at h ⊢
 case p=>exact cZ.kept hs.kept h
 case own id off len =>
  obtain⟨h1,h2,h3⟩:=h;refine⟨Nat.lt_of_lt_of_le h1 hs.len,h2,λk es ro hc=>?_⟩;obtain⟨db,hd,hsb,hg,hso⟩:=hs.ids id _ h1 hc rfl;cases db<;>simp only[cM] at hsb;obtain⟨rfl,hlen⟩:=hsb;obtain⟨h4,h5⟩:=h3 _ _ _ hd;rw[hg];refine⟨by omega,?_⟩
  cases hG:X.G id with
  | none=>simp_all
  | some g =>
   rcases hso g hG with⟨a1,e1,f1,a2,e2,f2,hx,hy,hz⟩|⟨_,_,_,_,hx,_⟩;rotate_left 1
   .simp_all
   grind
 case ptr id off =>
  obtain⟨h1,h2,h3⟩:=h;refine⟨Nat.lt_of_lt_of_le h1 hs.len,h2,λcells hc=>?_⟩;obtain⟨db,hd,hsb,hg,_⟩:=hs.ids id _ h1 hc rfl;cases db<;>simp only[cM] at hsb;simp_all
 case aptr id i j =>
  obtain⟨h1,h2,h3⟩:=h;refine⟨Nat.lt_of_lt_of_le h1 hs.len,h2,λk es ro hc=>?_⟩;obtain⟨db,hd,hsb,hg,_⟩:=hs.ids id _ h1 hc rfl;cases db<;>simp only[cM] at hsb;grind
 case bs id n =>
  obtain⟨h1,h2,h3⟩:=h;refine⟨Nat.lt_of_lt_of_le h1 hs.len,h2,λcells hc=>?_⟩;obtain⟨db,hd,hsb,hg,_⟩:=hs.ids id _ h1 hc rfl;cases db<;>simp only[cM] at hsb;simp_all
 case mp id =>
  obtain⟨h1,h2,h3⟩:=h;refine⟨Nat.lt_of_lt_of_le h1 hs.len,h2,λes hc=>?_⟩;obtain⟨db,hd,hsb,hg,_⟩:=hs.ids id _ h1 hc rfl;cases db<;>simp only[cM] at hsb;simp_all
 case eptr cs =>
  obtain⟨bl,off,h1,h2,h3⟩:=h;exact⟨bl,off,h1,(hs.kept bl h2).1,gT.kept hs.kept h2 h3⟩
 case full k es =>
  obtain⟨a,h1,h2⟩:=h;refine⟨a,h1,h2.imp id ?_⟩;rintro⟨bl,off,h3,h4,h5⟩;exact⟨bl,off,h3,(hs.kept bl h4).1,fP.kept hs.kept h4 h5⟩
 case clo f cap =>
  obtain⟨vs,h1,h2⟩:=h;exact⟨vs,h1,h2.step hs⟩
theorem bF.step(hs:Step X X'):∀{xs:List CV} {vs:List Value},bF X xs vs->bF X' xs vs
 | [],[],_=>True.intro
 | _::_,_::_,h=>⟨h.1.step hs,bF.step hs h.2⟩
 | [],_::_,h=>h.elim
 | _::_,[],h=>h.elim
theorem eD.step(hs:Step X X'){x:EV}{v:Value}(h:eD X x v):eD X' x v:=by
 cases x<;>simp only[eD] at h ⊢
 case c=>exact h.step hs
 case agg=>obtain⟨vs,h1,h2⟩:=h;exact⟨vs,h1,h2.step hs⟩
theorem cO.step(hs:Step X X'):∀{xs:List EV} {vs:List Value},cO X xs vs->cO X' xs vs
 | [],[],_=>True.intro
 | _::_,_::_,h=>⟨h.1.step hs,cO.step hs h.2⟩
 | [],_::_,h=>h.elim
 | _::_,[],h=>h.elim
theorem bD.step(hs:Step X X'){x:DV}{v:Value}(h:bD X x v):bD X' x v:=by
 cases x<;>simp only[bD] at h ⊢
 case c=>exact h.step hs
 case agg=>obtain⟨vs,h1,h2⟩:=h;exact⟨vs,h1,h2.step hs⟩
 case tup=>obtain⟨vs,h1,h2⟩:=h;exact⟨vs,h1,h2.step hs⟩
theorem dI.step(hs:Step X X'):∀{xs:List DV} {vs:List Value},dI X xs vs->dI X' xs vs
 | [],[],_=>True.intro
 | _::_,_::_,h=>⟨h.1.step hs,dI.step hs h.2⟩
 | [],_::_,h=>h.elim
 | _::_,[],h=>h.elim
theorem Step.trans{Y Z:Ctx}(hy:HInv Y)(h:Step X Y)(k:Step Y Z):Step X Z where
 size:=Nat.le_trans h.size k.size
 os:=k.os.trans h.os
 tape:=k.tape.trans h.tape
 output:=h.output.trans k.output
 kept:=h.kept.trans k.kept
 len:=Nat.le_trans h.len k.len
 ids:=λid db' hid hz hl=>by
  obtain⟨db,hd,hsb,hg,hso⟩:=k.ids id db' (Nat.lt_of_lt_of_le hid h.len) hz hl;obtain⟨db0,hd0,hsb0,hg0,hso0⟩:=h.ids id db hid hd hsb.live;exact⟨db0,hd0,hsb0.trans hsb,hg.trans hg0,λg hx=>(hso0 g hx).trans (hso g (hg0.trans hx))⟩
 frame:=λb hb hno=>by
  refine(k.frame b (Nat.lt_of_lt_of_le hb h.size) λid db g hd hl hf hg=>?_).trans (h.frame b hb hno);rcases h.mine id db g hd hl hf hg with hge|⟨id0,db0,g0,h0,hl0,hf0,hg0,he⟩
  .omega
  .grind
 mine:=λid db g hd hl hf hg=>by
  rcases k.mine id db g hd hl hf hg with hge|⟨id0,db0,g0,h0,hl0,hf0,hg0,he⟩
  .exact .inl (Nat.le_trans h.size hge)
  .rcases h.mine id0 db0 g0 h0 hl0 hf0 hg0 with hge|⟨id1,db1,g1,h1,hl1,hf1,hg1,he1⟩
   .omega
   .grind
 upper:=λb hb=>by
  rcases k.upper b hb with hb|hb|⟨id,db,g,hd,hl,hg,he⟩
  .exact h.upper b hb
  .exact .inr (.inl (Nat.le_trans h.size hb))
  .by_cases hf:db.fix=false
   .rcases h.mine id db g hd hl hf hg with hge|⟨id0,db0,g0,h0,hl0,hf0,hg0,he0⟩
    .omega
    .grind
   .exact h.upper b (he▸(hy.own id db g hd hl hg).2 (by simpa using hf))
end Go.Dm
end
section
namespace Go.Dm
open Go
variable {X X':Ctx}{id i j:Nat}{db d0:DB}{o:Obj}{vs:List Value}{g:Nat × Nat}
theorem cU.at_{bl:Nat}:∀{cs:List CV} {off j:Nat} {c:CV},cU X bl off cs->cs[j]?=some c->∃v,X.w.cell? ⟨bl,off+j,none⟩=some v/\cA X c v
 | [],_,_,_,_,h=>by simp at h
 | c::cs,off,0,d,h,hj=>by
  simp only[cU] at h;simp_all
 | c::cs,off,j+1,d,h,hj=>by
  obtain⟨v,h1,h2⟩:=cU.at_ h.2 hj;grind
theorem cU.mk{bl:Nat}:∀{cs:List CV} {off:Nat},(∀j c,cs[j]?=some c->∃v,X.w.cell? ⟨bl,off+j,none⟩=some v/\cA X c v)->cU X bl off cs
 | [],_,_=>by simp only[cU]
 | c::cs,off,h=>by
  refine⟨by simpa using h 0 c rfl,cU.mk λj d hj=>?_⟩
  obtain⟨v,h1,h2⟩:=h (j+1) d (by simpa using hj);grind
theorem bF.length: ∀{xs:List CV} {vs:List Value},bF X xs vs->xs.length=vs.length
 | [],[],_=>rfl
 | _::_,_::_,h=>by simp[bF.length h.2]
 | [],_::_,h=>h.elim
 | _::_,[],h=>h.elim
theorem bF.at_: ∀{xs:List CV} {vs:List Value} {j:Nat} {c:CV},bF X xs vs->xs[j]?=some c->∃v,vs[j]?=some v/\cA X c v
 | [],[],_,_,_,hj=>by simp at hj
 | c::xs,v::vs,0,d,h,hj=>by
  simp only[List.getElem?_cons_zero,Option.some.injEq] at hj;subst hj;exact⟨v,rfl,h.1⟩
 | c::xs,v::vs,j+1,d,h,hj=>by
  simp only[List.getElem?_cons_succ] at hj ⊢;exact bF.at_ h.2 hj
 | [],_::_,_,_,h,_=>h.elim
 | _::_,[],_,_,h,_=>h.elim
theorem bF.mk: ∀{xs:List CV} {vs:List Value},xs.length=vs.length->(∀(j:Nat) (c:CV) (v:Value),xs[j]?=some c->vs[j]?=some v->cA X c v)->bF X xs vs
 | [],[],_,_=>True.intro
 | c::xs,v::vs,hl,h=>⟨h 0 c v rfl rfl,bF.mk (by simpa using hl) λj d u hj hu=>h (j+1) d u (by simpa using hj) (by simpa using hu)⟩
 | [],_::_,hl,_=>by simp at hl
 | _::_,[],hl,_=>by simp at hl
theorem bF.oneCell: ∀{xs:List CV} {vs:List Value},bF X xs vs->∀v∈vs,v.oneCell'=true
 | [],[],_,_,h=>by simp at h
 | _::_,_::_,h,v,hv=>by
  rcases List.mem_cons.1 hv with rfl|hv
  .exact pZ h.1
  .exact bF.oneCell h.2 v hv
 | [],_::_,h,_,_=>h.elim
 | _::_,[],h,_,_=>h.elim
theorem cU.move(hs:Step X X'){bl:Nat}(hb:X'.w.heap[bl]?=X.w.heap[bl]?){off:Nat}{cs:List CV}(h:cU X bl off cs):cU X' bl off cs :=
 cU.mk λj c hj=>by
  obtain⟨v,h1,h2⟩:=h.at_ hj;exact⟨v,by rw[World.cell?_of_block (a:=⟨bl,off+j,none⟩) hb];exact h1,h2.step hs⟩
theorem eC.move(hs:Step X X')(hG:X'.G id=X.G id)(hb:∀g,X.G id=some g->X'.w.heap[g.1]?=X.w.heap[g.1]?)(h:eC X id db):eC X' id db:=by
 cases db<;>simp only[eC] at h ⊢
 case box =>
  obtain⟨g,arr,el,fz,h1,h2,h3,h4,h5⟩:=h;exact⟨g,arr,el,fz,hG.trans h1,(hb g h1).trans h2,h3,h4,h5.move hs (hb g h1)⟩
 case arr =>
  rcases h with h|⟨g,arr,el,fz,h1,h2,h3,h4,h5⟩
  .exact .inl ⟨hG.trans h.1,h.2⟩
  .exact .inr ⟨g,arr,el,fz,hG.trans h1,(hb g h1).trans h2,h3,h4,h5.move hs.kept (hb g h1)⟩
 case mp =>
  obtain⟨g,ms,c,h1,h2,h3,h4⟩:=h;exact⟨g,ms,c,hG.trans h1,(hb g h1).trans h2,h3.kept hs.kept,h4⟩
structure Alike (w w':World):Prop where
 heap:w'.heap=w.heap
 os:w'.os=w.os
 tape:w'.tape=w.tape
 output:tM w w'
def Ctx.at_(X:Ctx)(w':World):Ctx:=⟨w',X.S,X.G,X.h⟩
theorem Step.alike(hi:HInv X){w':World}(hw:Alike X.w w'):Step X (X.at_ w') where
 size:=by simp only[Ctx.at_,hw.heap];exact Nat.le_refl _
 os:=hw.os
 tape:=hw.tape
 output:=hw.output
 kept:=λb hb=>⟨hb,by simp only[Ctx.at_,hw.heap]⟩
 len:=Nat.le_refl _
 ids:=λid db' _ h hl=>⟨db',h,cM.refl hl,rfl,λg hg=>by
  simp only[Ctx.at_,hw.heap];exact(hi.blk id db' h).same hl g hg⟩
 frame:=λb _ _=>by simp only[Ctx.at_,hw.heap]
 mine:=λid db g h hl hf hg=>.inr ⟨id,db,g,h,hl,hf,hg,rfl⟩
 upper:=λ_ h=>.inl h
theorem HInv.alike(hi:HInv X){w':World}(hw:Alike X.w w'):HInv (X.at_ w') where
 slt:=λb hb=>by simp only[Ctx.at_,hw.heap];exact hi.slt b hb
 blk:=λid db h=>(hi.blk id db h).move (Step.alike hi hw) rfl λg _=>by simp only[Ctx.at_,hw.heap]
 own:=hi.own
 inj:=hi.inj
structure Grew (w w':World) (o:Obj):Prop where
 heap:w'.heap=w.heap.push o
 os:w'.os=w.os
 tape:w'.tape=w.tape
 output:tM w w'
theorem Grew.old{w w':World}(h:Grew w w' o){b:Nat}(hb:b<w.heap.size):w'.heap[b]?=w.heap[b]? := by
 rw[h.heap,Array.getElem?_push,if_neg (by omega)]
theorem Grew.new{w w':World}(h:Grew w w' o):w'.heap[w.heap.size]?=some o:=by
 rw[h.heap,Array.getElem?_push,if_pos rfl]
theorem Grew.size{w w':World}(h:Grew w w' o):w'.heap.size=w.heap.size+1:=by rw[h.heap,Array.size_push]
def Ctx.push(X:Ctx)(w':World)(db:DB):Ctx:=⟨w',X.S,λid=>if id=X.h.length then some (X.w.heap.size,0) else X.G id,X.h++[db]⟩
theorem getElem?_push_lt{α:Type}{l:List α}{x:α}(h:i<l.length):(l++[x])[i]?=l[i]? := by grind
theorem bX{α:Type}{l:List α}{x y:α}(h:(l++[x])[i]?=some y):(i<l.length/\l[i]?=some y)∨(i=l.length/\y=x):=by grind
theorem Step.push(hi:HInv X){w':World}(hw:Grew X.w w' o)(db:DB):Step X (X.push w' db) where
 size:=by simp only[Ctx.push,hw.size];omega
 os:=hw.os
 tape:=hw.tape
 output:=hw.output
 kept:=λb hb=>⟨hb,hw.old (hi.slt b hb)⟩
 len:=by simp[Ctx.push]
 ids:=λid db' hid h hl=>by
  simp only[Ctx.push] at h ⊢;rw[getElem?_push_lt hid] at h;refine⟨db',h,cM.refl hl,by rw[if_neg (by omega)],λg hg=>?_⟩
  rw[hw.old (hi.block_lt h hl hg)];exact(hi.blk id db' h).same hl g hg
 frame:=λb hb _=>hw.old hb
 mine:=λid d g h hl hf hg=>by
  simp only[Ctx.push] at h hg;grind
 upper:=λ_ h=>.inl h
theorem HInv.push(hi:HInv X){w':World}(hw:Grew X.w w' o)(hb:eC (X.push w' db) X.h.length db)(hf:db.fix=false):HInv (X.push w' db) where
 slt:=λb hb=>by have:=hi.slt b hb;simp only[Ctx.push,hw.size];omega
 blk:=λid d h=>by
  rcases bX h with⟨hlt,h'⟩|⟨rfl,rfl⟩
  .by_cases hl:d.live=true
   .exact(hi.blk id d h').move (Step.push hi hw db) (by simp only[Ctx.push];rw[if_neg (by omega)]) λg hg=>hw.old (hi.block_lt h' hl hg)
   .cases d<;>simp_all[DB.live,eC]
  .exact hb
 own:=λid d g h hl hg=>by
  simp only[Ctx.push] at h hg ⊢;rcases bX h with⟨hlt,h'⟩|⟨rfl,rfl⟩
  .rw[if_neg (by omega)] at hg;exact hi.own id d g h' hl hg
  .rw[if_pos rfl] at hg;cases hg;refine⟨λ_ hs=>?_,λh=>?_⟩
   .have:=hi.slt _ hs;simp at this
   .simp_all
 inj:=λid d id' d' g g' h hl hf0 h' hl' hg hg' he=>by
  simp only[Ctx.push] at h hg h' hg';rcases bX h with⟨hlt,h1⟩|⟨rfl,rfl⟩<;>rcases bX h' with⟨hlt',h1'⟩|⟨rfl,rfl⟩
  .rw[if_neg (by omega)] at hg hg';exact hi.inj id d id' d' g g' h1 hl hf0 h1' hl' hg hg' he
  .rw[if_neg (by omega)] at hg;rw[if_pos rfl] at hg';cases hg';have:=hi.block_lt h1 hl hg;omega
  .rw[if_neg (by omega)] at hg';rw[if_pos rfl] at hg;cases hg;have:=hi.block_lt h1' hl' hg';omega
  .rfl
def Ctx.kill(X:Ctx)(id:Nat):Ctx:=⟨X.w,X.S,X.G,X.h.set id .dead⟩
theorem kL(h:(X.h.set id .dead)[i]?=some db)(hl:db.live=true):i≠id/\X.h[i]?=some db:=by
 rw[List.getElem?_set] at h;split at h
 .split at h
  .cases h;simp[DB.live] at hl
  .cases h
 .grind
theorem Step.kill(hi:HInv X)(id:Nat):Step X (X.kill id) where
 size:=Nat.le_refl _
 os:=rfl
 tape:=rfl
 output:=tM.rfl'
 kept:=Kept.refl _ _
 len:=by simp[Ctx.kill]
 ids:=λi db' _ h hl=>by
  obtain⟨_,h'⟩:=kL h hl;exact⟨db',h',cM.refl hl,rfl,(hi.blk i db' h').same hl⟩
 frame:=λ_ _ _=>rfl
 mine:=λi db g h hl hf hg=>by
  obtain⟨_,h'⟩:=kL h hl;exact .inr ⟨i,db,g,h',hl,hf,hg,rfl⟩
 upper:=λ_ h=>.inl h
theorem HInv.kill(hi:HInv X)(id:Nat):HInv (X.kill id) where
 slt:=hi.slt
 blk:=λi db h=>by
  by_cases hl:db.live=true
  .obtain⟨_,h'⟩:=kL h hl;exact(hi.blk i db h').move (Step.kill hi id) rfl λ_ _=>rfl
  .cases db<;>simp_all[DB.live,eC]
 own:=λi db g h hl hg=>by
  obtain⟨_,h'⟩:=kL h hl;exact hi.own i db g h' hl hg
 inj:=λi d i' d' g g' h hl hf0 h' hl' hg hg' he=>by
  obtain⟨_,h1⟩:=kL h hl;obtain⟨_,h1'⟩:=kL h' hl';exact hi.inj i d i' d' g g' h1 hl hf0 h1' hl' hg hg' he
structure Wrote (w w':World) (bl off:Nat) (vs:List Value):Prop where
 os:w'.os=w.os
 tape:w'.tape=w.tape
 output:tM w w'
 size:w'.heap.size=w.heap.size
 other:∀b,b≠bl->w'.heap[b]?=w.heap[b]?
 here:∃arr el fz arr',w.heap[bl]?=some (.cells arr el fz)/\w'.heap[bl]?=some (.cells arr' el fz)/\arr'.size=arr.size /\
  ∀j:Nat,arr'[j]?=if off<=j/\j<off+vs.length then vs[j-off]? else arr[j]?
theorem Wrote.cell_in{w w':World}{bl off:Nat}(h:Wrote w w' bl off vs)(h1:off<=j)(h2:j<off+vs.length):w'.cell? ⟨bl,j,none⟩=vs[j-off]? := by
 obtain⟨arr,el,fz,arr',ha,hb,hs,hj⟩:=h.here;simp only[World.cell?,hb,Option.isSome_none,Bool.false_eq_true,if_false];simp_all
theorem Wrote.cell_out{w w':World}{bl off:Nat}(h:Wrote w w' bl off vs){b:Nat}(hj:b≠bl∨j<off∨off+vs.length<=j):w'.cell? ⟨b,j,none⟩=w.cell? ⟨b,j,none⟩:=by
 by_cases hb:b=bl
 .subst hb;obtain⟨arr,el,fz,arr',ha,hb,hs,hh⟩:=h.here;simp only[World.cell?,hb,ha,Option.isSome_none,Bool.false_eq_true,if_false];grind
 .exact World.cell?_of_block (a:=⟨b,j,none⟩) (h.other b hb)
def splice{α:Type}(cells:List α)(off:Nat)(ys:List α):List α:=cells.take off++ys++cells.drop (off+ys.length)
theorem iA{α:Type}(cells:List α)(off:Nat)(ys:List α)(h:off+ys.length<=cells.length):(splice cells off ys).length=cells.length:=by
 simp[splice];omega
theorem kZ{α:Type}(cells:List α)(off:Nat)(ys:List α)(h:off+ys.length<=cells.length)(j:Nat):
  (splice cells off ys)[j]?=if off<=j/\j<off+ys.length then ys[j-off]? else cells[j]? := by
 unfold splice;by_cases h1:j<off
 .grind
 .grind
def Ctx.put(X:Ctx)(w':World)(id:Nat)(db:DB):Ctx:=⟨w',X.S,X.G,X.h.set id db⟩
theorem cG{l:aD}{d:DB}(h:(l.set id d)[i]?=some db):(i=id/\db=d/\i<l.length)∨(i≠id/\l[i]?=some db):=by grind
structure Touched (w w':World) (bl:Nat):Prop where
 os:w'.os=w.os
 tape:w'.tape=w.tape
 output:tM w w'
 size:w'.heap.size=w.heap.size
 other:∀b,b≠bl->w'.heap[b]?=w.heap[b]?
 here:vT (w.heap[bl]?) (w'.heap[bl]?)
theorem Wrote.touched{w w':World}{bl off:Nat}(h:Wrote w w' bl off vs):Touched w w' bl :=
 ⟨h.os,h.tape,h.output,h.size,h.other,by obtain⟨arr,el,fz,arr',ha,hb,hs,_⟩:=h.here;exact .inl ⟨arr,el,fz,arr',el,fz,ha,hb,hs⟩⟩
theorem Step.put(hi:HInv X){w':World}{d:DB}(h0:X.h[id]?=some d0)(hl0:d0.live=true)(hf0:d0.fix=false)(hg:X.G id=some g)
 (hw:Touched X.w w' g.1)(hsb:cM d0 d)(hf:d.fix=false):Step X (X.put w' id d) where
 size:=by simp only[Ctx.put,hw.size];exact Nat.le_refl _
 os:=hw.os
 tape:=hw.tape
 output:=hw.output
 kept:=λb hb=>⟨hb,hw.other b λe=>(hi.own id d0 g h0 hl0 hg).1 hf0 (e▸hb)⟩
 len:=by simp[Ctx.put]
 ids:=λi db' _ h hl=>by
  rcases cG h with⟨rfl,rfl,_⟩|⟨hne,h'⟩
  .refine⟨d0,h0,hsb,rfl,λg' hg'=>?_⟩;rw[hg] at hg';cases hg';exact hw.here
  .refine⟨db',h',cM.refl hl,rfl,λg' hg'=>?_⟩;rw[show (X.put w' id d).w.heap[g'.1]?=X.w.heap[g'.1]? from hw.other _ λe=>hne (hi.inj id d0 i db' g g' h0 hl0 hf0 h' hl hg hg' e.symm).symm]
   exact(hi.blk i db' h').same hl g' hg'
 frame:=λb _ hno=>hw.other b λe=>hno id d0 g h0 hl0 hf0 hg e.symm
 mine:=λi db g' h hl hf' hg'=>by
  rcases cG h with⟨rfl,rfl,_⟩|⟨hne,h'⟩
  .exact .inr ⟨i,d0,g',h0,hl0,hf0,hg',rfl⟩
  .exact .inr ⟨i,db,g',h',hl,hf',hg',rfl⟩
 upper:=λ_ h=>.inl h
theorem HInv.put(hi:HInv X){w':World}{d:DB}(h0:X.h[id]?=some d0)(hl0:d0.live=true)(hf0:d0.fix=false)(hg:X.G id=some g)
 (hw:Touched X.w w' g.1)(hsb:cM d0 d)(hf:d.fix=false)(hb:eC (X.put w' id d) id d):HInv (X.put w' id d) where
 slt:=λb hb=>by have:=hi.slt b hb;simp only[Ctx.put,hw.size];exact this
 blk:=λi db h=>by
  rcases cG h with⟨rfl,rfl,_⟩|⟨hne,h'⟩
  .exact hb
  .by_cases hl:db.live=true
   .exact(hi.blk i db h').move (Step.put hi h0 hl0 hf0 hg hw hsb hf) rfl λg' hg'=>hw.other _ λe=>hne (hi.inj id d0 i db g g' h0 hl0 hf0 h' hl hg hg' e.symm).symm
   .cases db<;>simp_all[DB.live,eC]
 own:=λi db g' h hl hg'=>by
  rcases cG h with⟨rfl,rfl,_⟩|⟨hne,h'⟩
  .have:=hi.own i d0 g' h0 hl0 hg';rw[hf0] at this;rw[hf];exact this
  .exact hi.own i db g' h' hl hg'
 inj:=λi d1 i' d1' g1 g1' h hl hfx h' hl' hg1 hg1' he=>by
  rcases cG h with⟨rfl,rfl,_⟩|⟨hne,h1⟩<;>rcases cG h' with⟨rfl,rfl,_⟩|⟨hne',h1'⟩
  .rfl
  .exact hi.inj i d0 i' d1' g1 g1' h0 hl0 hf0 h1' hl' hg1 hg1' he
  .exact hi.inj i d1 i' d0 g1 g1' h1 hl hfx h0 hl0 hg1 hg1' he
  .exact hi.inj i d1 i' d1' g1 g1' h1 hl hfx h1' hl' hg1 hg1' he
theorem zDA(hi:HInv X){w':World}{off:Nat}{cells ys:List CV}(h0:X.h[id]?=some (.box cells))(hg:X.G id=some g)
 (hle:off+ys.length<=cells.length)(hr:bF X ys vs)(hw:Wrote X.w w' g.1 (g.2+off) vs):
  Step X (X.put w' id (.box (splice cells off ys)))/\HInv (X.put w' id (.box (splice cells off ys))):=by
 have hlen:=hr.length;have hs:Step X (X.put w' id (.box (splice cells off ys))):=Step.put hi h0 rfl rfl hg hw.touched True.intro rfl;refine⟨hs,HInv.put hi h0 rfl rfl hg hw.touched True.intro rfl ?_⟩;have hb:=hi.blk id _ h0;simp only[eC] at hb ⊢;obtain⟨g',arr,el,fz,h1,h2,h3,h4,h5⟩:=hb;rw[hg] at h1;cases h1;obtain⟨arr0,el0,fz0,arr',ha,hb',hsz,hj⟩:=hw.here;rw[h2] at ha;cases ha;refine⟨g,arr',el,fz,hg,hb',by rw[iA _ _ _ hle,hsz];exact h3,by rw[hsz];exact h4,cU.mk λj c hc=>?_⟩
 rw[kZ _ _ _ hle] at hc;split at hc
 .rename_i hin;obtain⟨v,hv,hrc⟩:=hr.at_ hc;refine⟨v,?_,hrc.step hs⟩;show w'.cell? _=_;rw[hw.cell_in (by omega) (by omega),<- hv]
  congr 1;omega
 .rename_i hout;obtain⟨v,hv,hrc⟩:=h5.at_ hc;refine⟨v,?_,hrc.step hs⟩;show w'.cell? _=_;rw[hw.cell_out (by omega)];exact hv
end Go.Dm
end
section
namespace Go.Dm
open Go
variable {S:Nat->Prop}{vs:List Value}{i id:Nat}{X:Ctx}{g:Nat × Nat}{news:List (List PV)}
def bQ(w:World)(S:Nat->Prop):List PV->List Value->Prop
 | [],[]=>True
 | c::cs,v::vs=>cZ w S c v/\bQ w S cs vs
 | _,_=>False
theorem bQ.length{w:World}:∀{xs:List PV} {vs:List Value},bQ w S xs vs->xs.length=vs.length
 | [],[],_=>rfl
 | _::_,_::_,h=>by simp[bQ.length h.2]
 | [],_::_,h=>h.elim
 | _::_,[],h=>h.elim
theorem bQ.at_{w:World}:∀{xs:List PV} {vs:List Value} {j:Nat} {c:PV},bQ w S xs vs->xs[j]?=some c->∃v,vs[j]?=some v/\cZ w S c v
 | [],[],_,_,_,hj=>by simp at hj
 | c::xs,v::vs,0,d,h,hj=>by
  simp only[List.getElem?_cons_zero,Option.some.injEq] at hj;subst hj;exact⟨v,rfl,h.1⟩
 | c::xs,v::vs,j+1,d,h,hj=>by
  simp only[List.getElem?_cons_succ] at hj ⊢;exact bQ.at_ h.2 hj
 | [],_::_,_,_,h,_=>h.elim
 | _::_,[],_,_,h,_=>h.elim
theorem bQ.mk{w:World}:∀{xs:List PV} {vs:List Value},xs.length=vs.length->(∀(j:Nat) (c:PV) (v:Value),xs[j]?=some c->vs[j]?=some v->cZ w S c v)->bQ w S xs vs
 | [],[],_,_=>True.intro
 | c::xs,v::vs,hl,h=>⟨h 0 c v rfl rfl,bQ.mk (by simpa using hl) λj d u hj hu=>h (j+1) d u (by simpa using hj) (by simpa using hu)⟩
 | [],_::_,hl,_=>by simp at hl
 | _::_,[],hl,_=>by simp at hl
theorem bQ.kept{w w':World}{S':Nat->Prop}(hk:Kept w w' S S'):∀{xs:List PV} {vs:List Value},bQ w S xs vs->bQ w' S' xs vs
 | [],[],_=>True.intro
 | _::_,_::_,h=>⟨h.1.kept hk,bQ.kept hk h.2⟩
 | [],_::_,h=>h.elim
 | _::_,[],h=>h.elim
theorem bQ.append{w:World}:∀{xs:List PV} {vs:List Value} {ys:List PV} {us:List Value},bQ w S xs vs->bQ w S ys us->bQ w S (xs++ys) (vs++us)
 | [],[],_,_,_,k=>k
 | _::_,_::_,_,_,h,k=>⟨h.1,bQ.append h.2 k⟩
 | [],_::_,_,_,h,_=>h.elim
 | _::_,[],_,_,h,_=>h.elim
theorem bQ.oneCell{w:World}:∀{xs:List PV} {vs:List Value},bQ w S xs vs->∀v∈vs,v.oneCell'=true
 | [],[],_,_,h=>by simp at h
 | _::_,_::_,h,v,hv=>by
  rcases List.mem_cons.1 hv with rfl|hv
  .exact qA h.1
  .exact bQ.oneCell h.2 v hv
 | [],_::_,h,_,_=>h.elim
 | _::_,[],h,_,_=>h.elim
theorem gT.vals{w:World}{bl:Nat}:∀{cs:List PV} {off:Nat},gT w S bl off cs->∃vs:List Value,bQ w S cs vs/\∀(j:Nat) (v:Value),vs[j]?=some v->w.cell? ⟨bl,off+j,none⟩=some v
 | [],_,_=>⟨[],True.intro,by simp⟩
 | c::cs,off,h=>by
  obtain⟨⟨v,hv,hr⟩,ht⟩:=h;obtain⟨vs,h1,h2⟩:=gT.vals ht;refine⟨v::vs,⟨hr,h1⟩,λj u hj=>?_⟩;grind
theorem fP.vals{w:World}{k bl:Nat}:∀{es:List (List PV)} {off:Nat},fP w S k bl off es ->
  ∃vs:List Value,bQ w S es.flatten vs/\vs.length=es.length*k/\∀(j:Nat) (v:Value),vs[j]?=some v->w.cell? ⟨bl,off+j,none⟩=some v
 | [],_,_=>⟨[],True.intro,by simp,by simp⟩
 | e::es,off,h=>by
  obtain⟨⟨hl,he⟩,ht⟩:=h;obtain⟨vs,h1,h2⟩:=he.vals;obtain⟨us,h3,h3',h4⟩:=fP.vals ht;have hvl:=h1.length;refine⟨vs++us,by simpa using h1.append h3,by simp[h3',<- hvl,hl,Nat.add_mul];omega,λj v hj=>?_⟩
  grind
theorem mN{α:Type}{k:Nat}:∀{es:List (List α)} {j c:Nat} {e:List α},(∀e∈es,e.length=k)->es[j]?=some e->c<k->es.flatten[j*k+c]?=e[c]?
 | [],_,_,_,_,h,_=>by simp at h
 | x::es,0,c,e,hl,h,hc=>by
  grind
 | x::es,j+1,c,e,hl,h,hc=>by
  have hx:=hl x (by simp);simp only[List.flatten_cons];rw[List.getElem?_append_right (by rw[hx,Nat.add_mul,Nat.one_mul];omega),show (j+1)*k+c-x.length=j*k+c by rw[hx,Nat.add_mul,Nat.one_mul];omega]
  exact mN (λe he=>hl e (by simp[he])) h hc
theorem eW{α:Type}{k:Nat}:∀{es:List (List α)},(∀e∈es,e.length=k)->es.flatten.length=es.length*k
 | [],_=>by simp
 | x::es,h=>by
  have ht:=eW (k:=k) (es:=es) λe he=>h e (by simp[he]);grind
theorem fP.of_vals{w:World}{k bl off:Nat}{es:List (List PV)}(hl:∀e∈es,e.length=k)(hr:bQ w S es.flatten vs)
 (hc:∀(j:Nat) (v:Value),vs[j]?=some v->w.cell? ⟨bl,off+j,none⟩=some v):fP w S k bl off es :=
 fP.mk λj e hj=>by
  have hek:=hl e (List.mem_of_getElem? hj);refine⟨hek,gT.mk λc x hx=>?_⟩;have hck:c<k:=by have:=aK hx;omega
  have:=mN hl hj hck;rw[hx] at this;obtain⟨v,hv,hrv⟩:=hr.at_ this;exact⟨v,by rw[Nat.add_assoc];exact hc _ v hv,hrv⟩
theorem gP{i' k:Nat}(h:i<i'):i*k+k<=i' * k:=by
 have:=Nat.mul_le_mul_right k (show i+1<=i' from h)
 grind
theorem zDo(hi:HInv X){w':World}{j k:Nat}{es:List (List PV)}{e ys:List PV}(h0:X.h[id]?=some (.arr k es false))(hg:X.G id=some g)
 (he:es[i]?=some e)(hle:j+ys.length<=e.length)(hr:bQ X.w X.S ys vs)(hw:Wrote X.w w' g.1 (g.2+i*k+j) vs):
  Step X (X.put w' id (.arr k (es.set i (splice e j ys)) false))/\HInv (X.put w' id (.arr k (es.set i (splice e j ys)) false)):=by
 have hlen:=hr.length;have hsb:cM (.arr k es false) (.arr k (es.set i (splice e j ys)) false):=⟨rfl,by simp⟩
 have hs:Step X (X.put w' id (.arr k (es.set i (splice e j ys)) false)):=Step.put hi h0 rfl rfl hg hw.touched hsb rfl
 refine⟨hs,HInv.put hi h0 rfl rfl hg hw.touched hsb rfl ?_⟩;have hb:=hi.blk id _ h0;simp only[eC] at hb ⊢;rcases hb with hb|⟨g',arr,el,fz,h1,h2,h3,h4,h5⟩
 .rw[hg] at hb;cases hb.1
 rw[hg] at h1;cases h1;obtain⟨arr0,el0,fz0,arr',ha,hb',hsz,hj⟩:=hw.here;rw[h2] at ha;cases ha;refine .inr ⟨g,arr',el,fz,hg,hb',by simpa[hsz] using h3,by rw[hsz];exact h4,fP.mk λi' e' hc=>?_⟩
 have hek:=(h5.at_ he).1;rw[List.getElem?_set] at hc;split at hc
 .rename_i hii;subst hii;split at hc
  .cases hc;refine⟨by rw[iA _ _ _ hle];exact hek,gT.mk λc x hx=>?_⟩
   rw[kZ _ _ _ hle] at hx;split at hx
   .obtain⟨v,hv,hrv⟩:=hr.at_ hx;refine⟨v,?_,hrv.kept hs.kept⟩;show w'.cell? _=_;rw[hw.cell_in (by omega) (by omega),<- hv]
    congr 1;omega
   .obtain⟨v,hv,hrv⟩:=(h5.at_ he).2.at_ hx;refine⟨v,?_,hrv.kept hs.kept⟩;show w'.cell? _=_;rw[hw.cell_out (by omega)];exact hv
  .cases hc
 .rename_i hne;obtain⟨h6,h7⟩:=h5.at_ hc;refine⟨h6,gT.mk λc x hx=>?_⟩;obtain⟨v,hv,hrv⟩:=h7.at_ hx;refine⟨v,?_,hrv.kept hs.kept⟩;show w'.cell? _=_;have hck:=aK hx;rw[hw.cell_out ?_]
  .exact hv
  .right;rcases Nat.lt_or_gt_of_ne hne with hlt|hgt
   .have:=gP (k:=k) hlt;omega
   .have:=gP (k:=k) hgt;omega
theorem zH3(hi:HInv X){w':World}{k lo:Nat}{es:List (List PV)}(h0:X.h[id]?=some (.arr k es false))(hg:X.G id=some g)(hln:lo+news.length<=es.length)
 (hl:∀e∈news,e.length=k)(hr:bQ X.w X.S news.flatten vs)(hw:Wrote X.w w' g.1 (g.2+lo*k) vs):
  Step X (X.put w' id (.arr k (es.take lo++(news++es.drop (lo+news.length))) false))/\HInv (X.put w' id (.arr k (es.take lo++(news++es.drop (lo+news.length))) false)):=by
 have hlen:=hr.length;have hfl:=eW hl;have hel:(es.take lo++(news++es.drop (lo+news.length))).length=es.length:=by simp;omega
 have hsb:cM (.arr k es false) (.arr k (es.take lo++(news++es.drop (lo+news.length))) false):=⟨rfl,by rw[hel];exact Nat.le_refl _⟩
 have hs:Step X (X.put w' id (.arr k (es.take lo++(news++es.drop (lo+news.length))) false)):=Step.put hi h0 rfl rfl hg hw.touched hsb rfl;refine⟨hs,HInv.put hi h0 rfl rfl hg hw.touched hsb rfl ?_⟩;have hb:=hi.blk id _ h0;simp only[eC] at hb ⊢;rcases hb with hb|⟨g',arr,el,fz,h1,h2,h3,h4,h5⟩
 .rw[hg] at hb;cases hb.1
 rw[hg] at h1;cases h1;obtain⟨arr0,el0,fz0,arr',ha,hb',hsz,hj⟩:=hw.here;rw[h2] at ha;cases ha;have hlt:(es.take lo).length=lo:=by simp;omega
 refine .inr ⟨g,arr',el,fz,hg,hb',by rw[hel,hsz];exact h3,by rw[hsz];exact h4,fP.mk λi' e' hc=>?_⟩
 have old:es[i']?=some e'->i'<lo∨lo+news.length<=i'->e'.length=k/\gT w' (X.put w' id (.arr k (es.take lo++(news++es.drop (lo+news.length))) false)).S g.1 (g.2+i' * k) e':=by
  intro hc ho;obtain⟨h6,h7⟩:=h5.at_ hc;refine⟨h6,gT.mk λc x hx=>?_⟩;obtain⟨v,hv,hrv⟩:=h7.at_ hx;refine⟨v,?_,hrv.kept hs.kept⟩;have hck:=aK hx;rw[hw.cell_out ?_]
  .exact hv
  .right;rcases ho with ho|ho
   .have:=gP (k:=k) ho;omega
   .have:=Nat.mul_le_mul_right k ho;rw[Nat.add_mul] at this;right;omega
 rcases Nat.lt_or_ge i' lo with hlo|hlo
 .rw[List.getElem?_append_left (by omega),List.getElem?_take,if_pos hlo] at hc;exact old hc (.inl hlo)
 .rw [List.getElem?_append_right (by omega),hlt] at hc;rcases Nat.lt_or_ge (i' - lo) news.length with hm|hm
  .rw[List.getElem?_append_left hm] at hc;have hek:=hl e' (List.mem_of_getElem? hc);refine⟨hek,gT.mk λc x hx=>?_⟩;have hck:c<k:=by have:=aK hx;omega
   have:=mN hl hc hck;rw[hx] at this;obtain⟨v,hv,hrv⟩:=hr.at_ this;refine⟨v,?_,hrv.kept hs.kept⟩;show w'.cell? _=_;have hml:=gP (k:=k) hm;have hik:i' * k=lo*k+(i' - lo)*k:=by rw[<- Nat.add_mul];congr 1;omega
   rw[hw.cell_in (by omega) (by omega),<- hv]
   congr 1;omega
  .rw[List.getElem?_append_right hm,List.getElem?_drop] at hc;exact old (by rw[<- hc];congr 1;omega) (.inr (by omega))
theorem zBf(hi:HInv X){w':World}{k:Nat}{es:List (List PV)}(h0:X.h[id]?=some (.arr k es false))(hg:X.G id=some g)
 (hl:∀e∈news,e.length=k)(hr:bQ X.w X.S news.flatten vs)(hw:Wrote X.w w' g.1 (g.2+es.length*k) vs)
 (hroom:∀arr el fz,X.w.heap[g.1]?=some (.cells arr el fz)->g.2+(es.length+news.length)*k<=arr.size):
  Step X (X.put w' id (.arr k (es++news) false))/\HInv (X.put w' id (.arr k (es++news) false)):=by
 have hlen:=hr.length;have hfl:=eW hl;have hsb:cM (.arr k es false) (.arr k (es++news) false):=⟨rfl,by simp⟩
 have hs:Step X (X.put w' id (.arr k (es++news) false)):=Step.put hi h0 rfl rfl hg hw.touched hsb rfl;refine⟨hs,HInv.put hi h0 rfl rfl hg hw.touched hsb rfl ?_⟩;have hb:=hi.blk id _ h0;simp only[eC] at hb ⊢;rcases hb with hb|⟨g',arr,el,fz,h1,h2,h3,h4,h5⟩
 .rw[hg] at hb;cases hb.1
 rw[hg] at h1;cases h1;obtain⟨arr0,el0,fz0,arr',ha,hb',hsz,hj⟩:=hw.here;rw[h2] at ha;cases ha;refine .inr ⟨g,arr',el,fz,hg,hb',by simpa[hsz] using hroom _ _ _ h2,by rw[hsz];exact h4,fP.mk λi' e' hc=>?_⟩
 rcases Nat.lt_or_ge i' es.length with hlt|hge
 .rw[List.getElem?_append_left hlt] at hc;obtain⟨h6,h7⟩:=h5.at_ hc;refine⟨h6,gT.mk λc x hx=>?_⟩;obtain⟨v,hv,hrv⟩:=h7.at_ hx;refine⟨v,?_,hrv.kept hs.kept⟩;show w'.cell? _=_;have hck:=aK hx;have:=gP (k:=k) hlt;rw[hw.cell_out (by omega)];exact hv
 .rw[List.getElem?_append_right hge] at hc;have hek:=hl e' (List.mem_of_getElem? hc);refine⟨hek,gT.mk λc x hx=>?_⟩;have hck:c<k:=by have:=aK hx;omega
  have hat:=mN hl hc hck;rw[hx] at hat;obtain⟨v,hv,hrv⟩:=hr.at_ hat;refine⟨v,?_,hrv.kept hs.kept⟩;show w'.cell? _=_;have hvl:=aK hv;have hmul:i' * k=es.length*k+(i' - es.length)*k:=by rw[<- Nat.add_mul];congr 1;omega
  rw[hw.cell_in (by omega) (by omega),<- hv]
  congr 1;omega
def Ctx.rebase(X:Ctx)(id:Nat)(g:Nat × Nat)(k:Nat)(es:List (List PV)):Ctx:=⟨X.w,X.S,λi=>if i=X.h.length then some g else X.G i,X.h.set id .dead++[.arr k es false]⟩
theorem dF{k:Nat}{es:List (List PV)}{db:DB}(h:(X.rebase id g k es).h[i]?=some db)(hl:db.live=true):
  (i≠id/\i<X.h.length/\X.h[i]?=some db)∨(i=X.h.length/\db=.arr k es false):=by
 rcases bX h with⟨h1,h2⟩|⟨h1,h2⟩
 .obtain⟨h3,h4⟩:=kL h2 hl;simp_all
 .simp_all
theorem rebase(hi:HInv X){k off:Nat}{es:List (List PV)}(h0:X.h[id]?=some (.arr k es false))(hg:X.G id=some g)(ho:off<=es.length):
  Step X (X.rebase id (g.1,g.2+off*k) k (es.drop off))/\HInv (X.rebase id (g.1,g.2+off*k) k (es.drop off)):=by
 have hid:=aK h0;have hs:Step X (X.rebase id (g.1,g.2+off*k) k (es.drop off)):=by
  refine⟨Nat.le_refl _,rfl,rfl,tM.rfl',Kept.refl _ _,by simp[Ctx.rebase],λi db hlt h hl=>?_,λ_ _ _=>rfl,λi db g' h hl hf hg'=>?_,λ_ h=>.inl h⟩
  .rcases dF h hl with⟨h1,h2,h3⟩|⟨h1,_⟩
   .exact⟨db,h3,cM.refl hl,by simp only[Ctx.rebase];rw[if_neg (by omega)],(hi.blk i db h3).same hl⟩
   .omega
  .rcases dF h hl with⟨h1,h2,h3⟩|⟨h1,h2⟩
   .simp only[Ctx.rebase] at hg';grind
   .simp only[Ctx.rebase] at hg';rw[if_pos h1] at hg';cases hg';exact .inr ⟨id,_,g,h0,rfl,rfl,hg,rfl⟩
 refine⟨hs,hi.slt,λi db h=>?_,λi db g' h hl hg'=>?_,λi d i' d' g1 g1' h hl hfx h' hl' hg1 hg1' he=>?_⟩
 .by_cases hl:db.live=true
  .rcases dF h hl with⟨h1,h2,h3⟩|⟨h1,h2⟩
   .exact(hi.blk i db h3).move hs (by simp only[Ctx.rebase];rw[if_neg (by omega)]) λ_ _=>rfl
   .subst h1;subst h2;have hb:=hi.blk id _ h0;rcases hb with hb|⟨g',arr,el,fz,h1,h2,h3,h4,h5⟩
    .simp_all
    rw[hg] at h1;cases h1;refine .inr ⟨(g.1,g.2+off*k),arr,el,fz,by simp[Ctx.rebase],h2,?_,h4,h5.drop off⟩
    have:off*k+(es.length-off)*k=es.length*k:=by rw[<- Nat.add_mul];congr 1;omega
    grind
  .cases db<;>simp_all[DB.live,eC]
 .rcases dF h hl with⟨h1,h2,h3⟩|⟨h1,h2⟩
  .simp only[Ctx.rebase] at hg' ⊢;rw[if_neg (by omega)] at hg';exact hi.own i db g' h3 hl hg'
  .simp only[Ctx.rebase] at hg' ⊢;rw[if_pos h1] at hg';cases hg';subst h2;have:=hi.own id _ g h0 rfl hg;exact⟨λ_=>this.1 rfl,λh=>by cases h⟩
 .simp only[Ctx.rebase] at hg1 hg1';rcases dF h hl with⟨h1,h2,h3⟩|⟨h1,h2⟩<;>rcases dF h' hl' with⟨h1',h2',h3'⟩|⟨h1',h2'⟩
  .rw[if_neg (by omega)] at hg1 hg1';exact hi.inj i d i' d' g1 g1' h3 hl hfx h3' hl' hg1 hg1' he
  .rw[if_neg (by omega)] at hg1;rw[if_pos h1'] at hg1';cases hg1';exact absurd (hi.inj i d id _ g1 g h3 hl hfx h0 rfl hg1 hg he) h1
  .rw[if_neg (by omega)] at hg1';rw[if_pos h1] at hg1;cases hg1;exact absurd (hi.inj id _ i' d' g g1' h0 rfl rfl h3' hl' hg hg1' he).symm h1'
  .omega
theorem YJ(hi:HInv X){k off len:Nat}{es:List (List PV)}(h0:X.h[id]?=some (.arr k es false))(hg:X.G id=some g)(ho:off+len<=es.length):
  Step X (X.rebase id (g.1,g.2+off*k) k ((es.drop off).take len))/\HInv (X.rebase id (g.1,g.2+off*k) k ((es.drop off).take len)):=by
 have hid:=aK h0;have hs:Step X (X.rebase id (g.1,g.2+off*k) k ((es.drop off).take len)):=by
  refine⟨Nat.le_refl _,rfl,rfl,tM.rfl',Kept.refl _ _,by simp[Ctx.rebase],λi db hlt h hl=>?_,λ_ _ _=>rfl,λi db g' h hl hf hg'=>?_,λ_ h=>.inl h⟩
  .rcases dF h hl with⟨h1,h2,h3⟩|⟨h1,_⟩
   .exact⟨db,h3,cM.refl hl,by simp only[Ctx.rebase];rw[if_neg (by omega)],(hi.blk i db h3).same hl⟩
   .omega
  .rcases dF h hl with⟨h1,h2,h3⟩|⟨h1,h2⟩
   .simp only[Ctx.rebase] at hg';grind
   .simp only[Ctx.rebase] at hg';rw[if_pos h1] at hg';cases hg';exact .inr ⟨id,_,g,h0,rfl,rfl,hg,rfl⟩
 refine⟨hs,hi.slt,λi db h=>?_,λi db g' h hl hg'=>?_,λi d i' d' g1 g1' h hl hfx h' hl' hg1 hg1' he=>?_⟩
 .by_cases hl:db.live=true
  .rcases dF h hl with⟨h1,h2,h3⟩|⟨h1,h2⟩
   .exact(hi.blk i db h3).move hs (by simp only[Ctx.rebase];rw[if_neg (by omega)]) λ_ _=>rfl
   .subst h1;subst h2;have hb:=hi.blk id _ h0;rcases hb with hb|⟨g',arr,el,fz,h1,h2,h3,h4,h5⟩
    .simp_all
    rw[hg] at h1;cases h1;refine .inr ⟨(g.1,g.2+off*k),arr,el,fz,by simp[Ctx.rebase],h2,?_,h4,(h5.drop off).take len⟩
    have e2:off*k+len*k<=es.length*k:=by rw[<- Nat.add_mul];exact Nat.mul_le_mul_right _ ho
    grind
  .cases db<;>simp_all[DB.live,eC]
 .rcases dF h hl with⟨h1,h2,h3⟩|⟨h1,h2⟩
  .simp only[Ctx.rebase] at hg' ⊢;rw[if_neg (by omega)] at hg';exact hi.own i db g' h3 hl hg'
  .simp only[Ctx.rebase] at hg' ⊢;rw[if_pos h1] at hg';cases hg';subst h2;have:=hi.own id _ g h0 rfl hg;exact⟨λ_=>this.1 rfl,λh=>by cases h⟩
 .simp only[Ctx.rebase] at hg1 hg1';rcases dF h hl with⟨h1,h2,h3⟩|⟨h1,h2⟩<;>rcases dF h' hl' with⟨h1',h2',h3'⟩|⟨h1',h2'⟩
  .rw[if_neg (by omega)] at hg1 hg1';exact hi.inj i d i' d' g1 g1' h3 hl hfx h3' hl' hg1 hg1' he
  .rw[if_neg (by omega)] at hg1;rw[if_pos h1'] at hg1';cases hg1';exact absurd (hi.inj i d id _ g1 g h3 hl hfx h0 rfl hg1 hg he) h1
  .rw[if_neg (by omega)] at hg1';rw[if_pos h1] at hg1;cases hg1;exact absurd (hi.inj id _ i' d' g g1' h0 rfl rfl h3' hl' hg hg1' he).symm h1'
  .omega
def Ctx.virt(X:Ctx)(k:Nat):Ctx:=⟨X.w,X.S,λi=>if i=X.h.length then none else X.G i,X.h++[.arr k [] false]⟩
theorem virt(hi:HInv X)(k:Nat):Step X (X.virt k)/\HInv (X.virt k):=by
 have hs:Step X (X.virt k):=by
  refine⟨Nat.le_refl _,rfl,rfl,tM.rfl',Kept.refl _ _,by simp[Ctx.virt],λi db hlt h hl=>?_,λ_ _ _=>rfl,λi db g' h hl hf hg'=>?_,λ_ h=>.inl h⟩
  .simp only[Ctx.virt] at h ⊢;rw[getElem?_push_lt hlt] at h;exact⟨db,h,cM.refl hl,by rw[if_neg (by omega)],(hi.blk i db h).same hl⟩
  .simp only[Ctx.virt] at h hg';grind
 refine⟨hs,hi.slt,λi db h=>?_,λi db g' h hl hg'=>?_,λi d i' d' g1 g1' h hl hfx h' hl' hg1 hg1' he=>?_⟩
 .rcases bX h with⟨h1,h2⟩|⟨h1,h2⟩
  .exact(hi.blk i db h2).move hs (by simp only[Ctx.virt];rw[if_neg (by omega)]) λ_ _=>rfl
  .subst h1;subst h2;simp only[eC];exact .inl ⟨by simp[Ctx.virt],trivial⟩
 .simp only[Ctx.virt] at h hg';rcases bX h with⟨h1,h2⟩|⟨h1,h2⟩
  .rw[if_neg (by omega)] at hg';exact hi.own i db g' h2 hl hg'
  .simp_all
 .simp only[Ctx.virt] at h h' hg1 hg1';rcases bX h with⟨h1,h2⟩|⟨h1,h2⟩<;>rcases bX h' with⟨h1',h2'⟩|⟨h1',h2'⟩
  .rw[if_neg (by omega)] at hg1 hg1';exact hi.inj i d i' d' g1 g1' h2 hl hfx h2' hl' hg1 hg1' he
  .simp_all
  .simp_all
  .omega
theorem iQ{k:Nat}{v:Value}(h:cA X (.p .nil) v):cA (X.virt k) (.own X.h.length 0 0) v:=by
 simp only[cA,cZ] at h ⊢;subst h;refine⟨by simp[Ctx.virt],rfl,λk' es ro he=>?_⟩
 simp[Ctx.virt]
end Go.Dm
end
section
namespace Go.Dm
open Go
variable {h:aD}{id i n:Nat}{db:DB}{X X':Ctx}{c:CV}{R R':DV->aD->Prop}{f:FuncId}{args args':List DV}
def zHU(h:aD)(id:Nat):aD :=
 match h[id]? with
 | some (.arr k es _)=>h.set id (.arr k es true)
 | _=>h
def sN(h:aD):List Nat->aD
 | []=>h
 | id::ids=>sN (zHU h id) ids
theorem BI(h:aD)(id:Nat):(zHU h id).length=h.length:=by
 unfold zHU;split<;>simp
theorem sO: ∀(ids:List Nat) (h:aD),(sN h ids).length=h.length
 | [],_=>rfl
 | id::ids,h=>by simp only[sN];rw[sO ids,BI]
theorem mP(hh:(zHU h id)[i]?=some db):
  (h[i]?=some db/\(i≠id∨∀k es ro,db≠.arr k es ro))∨(i=id/\∃k es ro,h[i]?=some (.arr k es ro)/\db=.arr k es true):=by
 unfold zHU at hh;grind
def Ctx.frz(X:Ctx)(id:Nat):Ctx :=
 ⟨X.w,λb=>X.S b∨∃k es ro g,X.h[id]?=some (.arr k es ro)/\X.G id=some g/\b=g.1,X.G,zHU X.h id⟩
theorem freeze(hi:HInv X)(id:Nat):Step X (X.frz id)/\HInv (X.frz id):=by
 have hk:Kept X.w (X.frz id).w X.S (X.frz id).S:=λb hb=>⟨.inl hb,rfl⟩;have hs:Step X (X.frz id):=by
  refine⟨Nat.le_refl _,rfl,rfl,tM.rfl',hk,by simp[Ctx.frz,BI],λi db hlt h hl=>?_,λ_ _ _=>rfl,λi db g' h hl hf hg'=>?_,λb hb=>?_⟩
  .rcases mP h with⟨h1,_⟩|⟨rfl,k,es,ro,h1,rfl⟩
   .exact⟨db,h1,cM.refl hl,rfl,(hi.blk i db h1).same hl⟩
   .exact⟨_,h1,⟨rfl,Nat.le_refl _⟩,rfl,(hi.blk i _ h1).same rfl⟩
  .rcases mP h with⟨h1,_⟩|⟨rfl,k,es,ro,h1,rfl⟩
   .exact .inr ⟨i,db,g',h1,hl,hf,hg',rfl⟩
   .simp[DB.fix] at hf
  .rcases hb with hb|⟨k,es,ro,g,h1,h2,rfl⟩
   .simp_all
   .exact .inr (.inr ⟨id,_,g,h1,rfl,h2,rfl⟩)
 refine⟨hs,λb hb=>?_,λi db h=>?_,λi db g' h hl hg'=>?_,λi d i' d' g1 g1' h hl hfx h' hl' hg1 hg1' he=>?_⟩
 .rcases hb with hb|⟨k,es,ro,g,h1,h2,rfl⟩
  .exact hi.slt b hb
  .exact hi.block_lt h1 rfl h2
 .rcases mP h with⟨h1,_⟩|⟨rfl,k,es,ro,h1,rfl⟩
  .exact(hi.blk i db h1).move hs rfl λ_ _=>rfl
  .have:=(hi.blk i _ h1).move hs rfl λ_ _=>rfl;simpa only[eC] using this
 .rcases mP h with⟨h1,h2⟩|⟨rfl,k,es,ro,h1,rfl⟩
  .have:=hi.own i db g' h1 hl hg';refine⟨λhf hb=>?_,λhf=>.inl (this.2 hf)⟩;rcases hb with hb|⟨k,es,ro,g,h3,h4,he⟩
   .simp_all
   .have:=hi.inj i db id _ g' g h1 hl hf h3 rfl hg' h4 he;grind
  .exact⟨λhf=>by simp[DB.fix] at hf,λ_=>.inr ⟨k,es,ro,g',h1,hg',rfl⟩⟩
 .rcases mP h with⟨h1,_⟩|⟨rfl,k,es,ro,h1,rfl⟩
  .rcases mP h' with⟨h2,_⟩|⟨rfl,k,es,ro,h2,rfl⟩
   .exact hi.inj i d i' d' g1 g1' h1 hl hfx h2 hl' hg1 hg1' he
   .exact hi.inj i d i' _ g1 g1' h1 hl hfx h2 rfl hg1 hg1' he
  .simp[DB.fix] at hfx
def vS(X X':Ctx)(ids:List Nat):Prop:=∀id∈ids,∀k es ro g,X.h[id]?=some (.arr k es ro)->X.G id=some g->X'.S g.1
theorem jD: ∀(ids:List Nat) {X:Ctx},HInv X->∃X':Ctx,X'.w=X.w/\X'.h=sN X.h ids/\X'.G=X.G/\Step X X'/\HInv X'/\vS X X' ids
 | [],X,hi=>⟨X,rfl,rfl,rfl,Step.refl hi,hi,λid h=>by simp at h⟩
 | id::ids,X,hi=>by
  obtain⟨hs,hi1⟩:=freeze hi id;obtain⟨X',h1,h2,h3,h4,h5,h6⟩:=jD ids hi1;refine⟨X',h1,h2,h3,hs.trans hi1 h4,h5,λj hj k es ro g hh hg=>?_⟩;rcases List.mem_cons.1 hj with rfl|hj
  .exact(h4.kept _ (.inr ⟨k,es,ro,g,hh,hg,rfl⟩)).1
  .have:∃ro',(X.frz id).h[j]?=some (.arr k es ro'):=by
    simp only[Ctx.frz,zHU];grind
   obtain⟨ro',hr⟩:=this;exact h6 j hj k es ro' g hr hg
def SK(h:aD):CV->Option PV
 | .p x=>some x
 | .own id off len =>
  match h[id]? with
  | some (.arr k es _)=>some (.sl k ((es.drop off).take len))
  | _=>none
 | _=>none
def zFm: CV->List Nat
 | .own id _ _=>[id]
 | _=>[]
def pvs(h:aD):List CV->Option (List PV)
 | []=>some []
 | c::cs=>match SK h c,pvs h cs with
  | some x,some xs=>some (x::xs)
  | _,_=>none
def BM: List CV->List Nat
 | []=>[]
 | c::cs=>zFm c++BM cs
theorem rL(hi:HInv X)(hs:Step X X')(hw:X'.w=X.w){v:Value}{x:PV}(hr:cA X c v)(hp:SK X.h c=some x)(hf:vS X X' (zFm c)):cZ X'.w X'.S x v:=by
 cases c<;>simp only[SK,reduceCtorEq,Option.some.injEq] at hp
 case p=>subst hp;simp only[cA] at hr;exact hr.kept hs.kept
 case own id off len =>
  split at hp
  .rename_i k es ro he;simp only[Option.some.injEq] at hp;subst hp;obtain⟨_,_,h3⟩:=hr;obtain⟨h4,h5⟩:=h3 _ _ _ he;have hlen:((es.drop off).take len).length=len:=by simp;omega
   have hb:=hi.blk id _ he;simp only[eC] at hb;cases hG:X.G id with
   | none =>
    simp only[cZ];simp_all
   | some g =>
    rw[hG] at h5;obtain⟨cap,o,arr,el,fz,h6,h7,h70,h8,h9,h10⟩:=h5;rcases hb with hb|⟨g',_,_,_,hg,_,_,_,hL⟩
    .simp_all
    rw[hG] at hg;cases hg;refine⟨_,cap,by rw[hlen];exact h7,by rw[hlen];exact h8,?_⟩
    rcases h70 with h70|h70
    .simp_all
    .exact .inr ⟨g.1,g.2+off*k,by rw[h70],hf id (by simp[zFm]) k es ro g he hG,((hL.drop off).take len).move hs.kept (by rw[hw])⟩
  .grind
theorem vS.sub{a b:List Nat}(h:vS X X' a)(hb:∀id∈b,id∈a):vS X X' b:=λid hid=>h id (hb id hid)
theorem CP(hi:HInv X)(hs:Step X X')(hw:X'.w=X.w):∀{cs:List CV} {vs:List Value} {xs:List PV},bF X cs vs->pvs X.h cs=some xs->vS X X' (BM cs)->bQ X'.w X'.S xs vs
 | [],[],xs,_,hp,_=>by simp only[pvs,Option.some.injEq] at hp;subst hp;exact True.intro
 | c::cs,v::vs,xs,hr,hp,hf=>by
  simp only[pvs] at hp;split at hp
  .rename_i x xs' h1 h2;simp only[Option.some.injEq] at hp;subst hp;exact⟨rL hi hs hw hr.1 h1 (hf.sub λid h=>by simp[BM,h]),CP hi hs hw hr.2 h2 (hf.sub λid h=>by simp[BM,h])⟩
  .cases hp
 | [],_::_,_,h,_,_=>h.elim
 | _::_,[],_,h,_,_=>h.elim
def WK(h:aD):CV->Option CV
 | .clo f []=>some (.clo f [])
 | x=>(SK h x).map .p
def WU(h:aD):DV->Option DV
 | .c x=>(WK h x).map .c
 | .agg xs=>(pvs h xs).map λys=>.agg (ys.map .p)
 | _=>none
def zOx: DV->List Nat
 | .c x=>zFm x
 | .agg xs=>BM xs
 | _=>[]
def iF(h:aD):List DV->Option (List DV)
 | []=>some []
 | d::ds=>match WU h d,iF h ds with
  | some x,some xs=>some (x::xs)
  | _,_=>none
def lZ: List DV->List Nat
 | []=>[]
 | d::ds=>zOx d++lZ ds
theorem bF.of_ps: ∀{xs:List PV} {vs:List Value},bQ X.w X.S xs vs->bF X (xs.map .p) vs
 | [],[],_=>True.intro
 | _::_,_::_,h=>⟨h.1,bF.of_ps h.2⟩
 | [],_::_,h=>h.elim
 | _::_,[],h=>h.elim
theorem PB{Y:Ctx}(hi:HInv X)(hs:Step X X')(hw:X'.w=X.w)(hYw:Y.w=X'.w)(hYS:Y.S=X'.S){x y:CV}{v:Value}(hr:cA X x v)(hp:WK X.h x=some y)(hf:vS X X' (zFm x)):cA Y y v:=by
 unfold WK at hp;split at hp
 .cases hp;simp only[cA] at hr ⊢;obtain⟨vs,h1,h2⟩:=hr;refine⟨vs,h1,?_⟩;cases vs with
  | nil=>exact True.intro
  | cons _ _=>exact h2.elim
 .obtain⟨z,hz,rfl⟩:=Option.map_eq_some_iff.1 hp;simp only[cA];rw[hYw,hYS];exact rL hi hs hw hr hz hf
theorem PQ{Y:Ctx}(hi:HInv X)(hs:Step X X')(hw:X'.w=X.w)(hYw:Y.w=X'.w)(hYS:Y.S=X'.S){d d':DV}{v:Value}(hr:bD X d v)(hp:WU X.h d=some d')(hf:vS X X' (zOx d)):bD Y d' v:=by
 cases d<;>simp only[WU,reduceCtorEq] at hp
 case c x =>
  obtain⟨z,hz,rfl⟩:=Option.map_eq_some_iff.1 hp;exact PB hi hs hw hYw hYS hr hz hf
 case agg xs =>
  obtain⟨ys,hy,rfl⟩:=Option.map_eq_some_iff.1 hp;obtain⟨vs,h1,h2⟩:=hr;refine⟨vs,h1,bF.of_ps ?_⟩;rw[hYw,hYS];exact CP hi hs hw h2 hy hf
theorem mL{Y:Ctx}(hi:HInv X)(hs:Step X X')(hw:X'.w=X.w)(hYw:Y.w=X'.w)(hYS:Y.S=X'.S):∀{ds ds':List DV} {vs:List Value},dI X ds vs->iF X.h ds=some ds'->vS X X' (lZ ds)->dI Y ds' vs
 | [],_,[],_,hp,_=>by simp only[iF,Option.some.injEq] at hp;subst hp;exact True.intro
 | d::ds,ds',v::vs,hr,hp,hf=>by
  simp only[iF] at hp;split at hp
  .rename_i x xs h1 h2;cases hp;exact⟨PQ hi hs hw hYw hYS hr.1 h1 (hf.sub λid h=>by simp[lZ,h]),mL hi hs hw hYw hYS hr.2 h2 (hf.sub λid h=>by simp[lZ,h])⟩
  .cases hp
 | [],_,_::_,h,_,_=>h.elim
 | _::_,_,[],h,_,_=>h.elim
def Ret(X:Ctx)(R:DV->aD->Prop)(v:Value)(w':World):Prop:=∃d X',X'.w=w'/\HInv X'/\Step X X'/\bD X' d v/\R d X'.h
def SV.pv: SV->PV
 | .i n=>.i .i64 n
 | .s l=>.s l
def SV.val: SV->Value
 | .i n=>.int .i64 n
 | .s l=>.string ⟨l.toArray⟩
theorem SV.rel(w:World)(S:Nat->Prop)(v:SV):cZ w S v.pv v.val:=by cases v<;>rfl
def zOi(w:World):Prop:=∀g j v,(said g)[j]?=some v->w.cell? ⟨g,j,none⟩=some v.val
def Gnd(P:Program)(X:Ctx):Prop:=∃W0:World,(W0.ShapedOpen P/\zOi W0)/\Kept W0 X.w (λb=>b<W0.heap.size) X.S
theorem Gnd.step{P:Program}(h:Gnd P X)(hs:Step X X'):Gnd P X' :=
 let ⟨W0,h1,h2⟩:=h
 ⟨W0,h1,λb hb=>⟨(hs.kept b (h2 b hb).1).1,((hs.kept b (h2 b hb).1).2).trans (h2 b hb).2⟩⟩
def aA(P:Program)(f:FuncId)(args:List DV)(h:aD)(R:DV->aD->Prop):Prop :=
 ∀ (X:Ctx) (vals:List Value),X.h=h->HInv X->Gnd P X->dI X args vals ->
  ((callFunc f vals.toArray).run P X.w=.ok (.enter f vals.toArray) X.w/\Calls P f vals.toArray X.w λe w'=>∃v,e=.returned v/\Ret X R v w') ∨
  ∃v w',(callFunc f vals.toArray).run P X.w=.ok (.value v) w'/\Ret X R v w'
theorem Ret.mono{v:Value}{w':World}(h:Ret X R v w')(hr:∀d h,R d h->R' d h):Ret X R' v w':=by
 obtain⟨d,X',h1,h2,h3,h4,h5⟩:=h;exact⟨d,X',h1,h2,h3,h4,hr _ _ h5⟩
theorem aA.mono{P:Program}(hc:aA P f args h R)(hr:∀d h,R d h->R' d h):aA P f args h R':=by
 intro X vals h1 h2 g h3;rcases hc X vals h1 h2 g h3 with⟨h4,h5⟩|⟨v,w',h4,h5⟩
 .exact .inl ⟨h4,h5.mono λe w' ⟨v,he,h⟩=>⟨v,he,h.mono hr⟩⟩
 .exact .inr ⟨v,w',h4,h5.mono hr⟩
def KV.sh(n:Nat):KV->KV
 | .p x=>.p x
 | .ptr id off=>.ptr (id+n) off
def CV.sh(n:Nat):CV->CV
 | .p x=>.p x
 | .own id off len=>.own (id+n) off len
 | .ptr id off=>.ptr (id+n) off
 | .aptr id i j=>.aptr (id+n) i j
 | .mp id=>.mp (id+n)
 | .bs id k=>.bs (id+n) k
 | .eptr cs=>.eptr cs
 | .full k es=>.full k es
 | .clo f cap=>.clo f (cap.map (KV.sh n))
def EV.sh(n:Nat):EV->EV
 | .c x=>.c (x.sh n)
 | .agg xs=>.agg (xs.map (CV.sh n))
def DV.sh(n:Nat):DV->DV
 | .jk=>.jk
 | .c x=>.c (x.sh n)
 | .agg xs=>.agg (xs.map (CV.sh n))
 | .tup xs=>.tup (xs.map (EV.sh n))
def DB.sh(n:Nat):DB->DB
 | .dead=>.dead
 | .box cells=>.box (cells.map (CV.sh n))
 | .arr k es ro=>.arr k es ro
 | .mp es=>.mp es
theorem DB.sh_live: (db.sh n).live=db.live:=by cases db<;>rfl
theorem DB.sh_fix: (db.sh n).fix=db.fix:=by cases db<;>rfl
def Ctx.join(X Y:Ctx):Ctx:=⟨Y.w,Y.S,λi=>if i<X.h.length then X.G i else Y.G (i-X.h.length),X.h++Y.h.map (DB.sh X.h.length)⟩
theorem zFy{Y:Ctx}(h:i<X.h.length):(X.join Y).h[i]?=X.h[i]? := by simp only[Ctx.join];rw[List.getElem?_append_left h]
theorem sR{Y:Ctx}(i:Nat):(X.join Y).h[i+X.h.length]?=(Y.h[i]?).map (DB.sh X.h.length):=by
 simp only[Ctx.join];rw[List.getElem?_append_right (by omega),List.getElem?_map];congr 2;omega
theorem kJ{Y:Ctx}(h:(X.join Y).h[i]?=some db):(i<X.h.length/\X.h[i]?=some db)∨∃j db',i=j+X.h.length/\Y.h[j]?=some db'/\db=db'.sh X.h.length:=by
 rcases Nat.lt_or_ge i X.h.length with hi|hi
 .exact .inl ⟨hi,by rw[<- zFy hi];exact h⟩
 .obtain⟨j,rfl⟩:∃j,i=j+X.h.length:=⟨i-X.h.length,by omega⟩
  rw[sR] at h;grind
theorem lQ{Y:Ctx}(i:Nat):(X.join Y).G (i+X.h.length)=Y.G i:=by
 simp only[Ctx.join];rw[if_neg (by omega)];congr 1;omega
theorem sD.join{Y:Ctx}{c:KV}{v:Value}(h:sD Y c v):sD (X.join Y) (c.sh X.h.length) v:=by
 cases c<;>simp only[sD,KV.sh] at h ⊢
 case p=>exact h
 case ptr id off =>
  obtain⟨h1,h2,h3⟩:=h;refine⟨by simp only[Ctx.join,List.length_append,List.length_map];omega,h2,λcells hc=>?_⟩
  rw[sR] at hc;obtain⟨db,h4,h5⟩:=Option.map_eq_some_iff.1 hc;cases db<;>simp only[DB.sh,reduceCtorEq] at h5;rw[lQ];exact h3 _ h4
theorem fQ.join{Y:Ctx}:∀{cs:List KV} {vs:List Value},fQ Y cs vs->fQ (X.join Y) (cs.map (KV.sh X.h.length)) vs
 | [],[],_=>True.intro
 | _::_,_::_,h=>⟨h.1.join,fQ.join h.2⟩
 | [],_::_,h=>h.elim
 | _::_,[],h=>h.elim
theorem cA.join{Y:Ctx}{v:Value}(h:cA Y c v):cA (X.join Y) (c.sh X.h.length) v:=by
 cases c<;>simp only[cA,CV.sh] at h ⊢
 case p=>exact h
 case eptr=>exact h
 case full=>exact h
 case own id off len =>
  obtain⟨h1,h2,h3⟩:=h;refine⟨by simp only[Ctx.join,List.length_append,List.length_map];omega,h2,λk es ro hc=>?_⟩
  rw[sR] at hc;obtain⟨db,h4,h5⟩:=Option.map_eq_some_iff.1 hc;cases db<;>simp only[DB.sh,reduceCtorEq] at h5;cases h5;rw[lQ];exact h3 _ _ _ h4
 case ptr id off =>
  obtain⟨h1,h2,h3⟩:=h;refine⟨by simp only[Ctx.join,List.length_append,List.length_map];omega,h2,λcells hc=>?_⟩
  rw[sR] at hc;obtain⟨db,h4,h5⟩:=Option.map_eq_some_iff.1 hc;cases db<;>simp only[DB.sh,reduceCtorEq] at h5;rw[lQ];exact h3 _ h4
 case aptr id i j =>
  obtain⟨h1,h2,h3⟩:=h;refine⟨by simp only[Ctx.join,List.length_append,List.length_map];omega,h2,λk es ro hc=>?_⟩
  rw[sR] at hc;obtain⟨db,h4,h5⟩:=Option.map_eq_some_iff.1 hc;cases db<;>simp only[DB.sh,reduceCtorEq] at h5;cases h5;rw[lQ];exact h3 _ _ _ h4
 case bs id n =>
  obtain⟨h1,h2,h3⟩:=h;refine⟨by simp only[Ctx.join,List.length_append,List.length_map];omega,h2,λcells hc=>?_⟩
  rw[sR] at hc;obtain⟨db,h4,h5⟩:=Option.map_eq_some_iff.1 hc;cases db<;>simp only[DB.sh,reduceCtorEq] at h5;rw[lQ];exact h3 _ h4
 case mp id =>
  obtain⟨h1,h2,h3⟩:=h;refine⟨by simp only[Ctx.join,List.length_append,List.length_map];omega,h2,λes hc=>?_⟩
  rw[sR] at hc;obtain⟨db,h4,h5⟩:=Option.map_eq_some_iff.1 hc;cases db<;>simp only[DB.sh,reduceCtorEq] at h5;rw[lQ];exact h3 _ h4
 case clo f cap =>
  obtain⟨vs,h1,h2⟩:=h;exact⟨vs,h1,h2.join⟩
theorem bF.join{Y:Ctx}:∀{cs:List CV} {vs:List Value},bF Y cs vs->bF (X.join Y) (cs.map (CV.sh X.h.length)) vs
 | [],[],_=>True.intro
 | _::_,_::_,h=>⟨h.1.join,bF.join h.2⟩
 | [],_::_,h=>h.elim
 | _::_,[],h=>h.elim
theorem eD.join{Y:Ctx}{c:EV}{v:Value}(h:eD Y c v):eD (X.join Y) (c.sh X.h.length) v:=by
 cases c<;>simp only[eD,EV.sh] at h ⊢
 case c=>exact h.join
 case agg=>obtain⟨vs,h1,h2⟩:=h;exact⟨vs,h1,h2.join⟩
theorem cO.join{Y:Ctx}:∀{cs:List EV} {vs:List Value},cO Y cs vs->cO (X.join Y) (cs.map (EV.sh X.h.length)) vs
 | [],[],_=>True.intro
 | _::_,_::_,h=>⟨h.1.join,cO.join h.2⟩
 | [],_::_,h=>h.elim
 | _::_,[],h=>h.elim
theorem bD.join{Y:Ctx}{c:DV}{v:Value}(h:bD Y c v):bD (X.join Y) (c.sh X.h.length) v:=by
 cases c<;>simp only[bD,DV.sh] at h ⊢
 case c=>exact h.join
 case agg=>obtain⟨vs,h1,h2⟩:=h;exact⟨vs,h1,h2.join⟩
 case tup=>obtain⟨vs,h1,h2⟩:=h;exact⟨vs,h1,h2.join⟩
theorem eC.join{Y:Ctx}(h:eC Y id db):eC (X.join Y) (id+X.h.length) (db.sh X.h.length):=by
 cases db<;>simp only[eC,DB.sh] at h ⊢
 case box cells =>
  obtain⟨g,arr,el,fz,h1,h2,h3,h4,h5⟩:=h;refine⟨g,arr,el,fz,by rw[lQ];exact h1,h2,by simpa using h3,h4,cU.mk λj c hc=>?_⟩
  rw[List.getElem?_map] at hc;obtain⟨c',h6,rfl⟩:=Option.map_eq_some_iff.1 hc;obtain⟨v,h7,h8⟩:=h5.at_ h6;exact⟨v,h7,h8.join⟩
 case arr k es ro =>
  rw[lQ];exact h
 case mp es =>
  rw[lQ];exact h
def Ctx.bare(X:Ctx):Ctx:=⟨X.w,X.S,λ_=>none,[]⟩
theorem HInv.bare(hi:HInv X):HInv X.bare:=⟨hi.slt,λid db h=>by simp[Ctx.bare] at h,λid db g h=>by simp[Ctx.bare] at h,λid db id' db' g g' h=>by simp[Ctx.bare] at h⟩
theorem Step.join{Y:Ctx}(hi:HInv X)(hs:Step X.bare Y):Step X (X.join Y):=by
 have hblk:∀b,b<X.w.heap.size->Y.w.heap[b]?=X.w.heap[b]? := λb hb=>hs.frame b hb λid db g h=>by simp[Ctx.bare] at h
 refine⟨hs.size,hs.os,hs.tape,hs.output,hs.kept,by simp[Ctx.join],λi db hlt h hl=>?_,λb hb _=>hblk b hb,λi db g h hl hf hg=>?_,λb hb=>?_⟩
 .rw[zFy hlt] at h;refine⟨db,h,cM.refl hl,by simp only[Ctx.join];rw[if_pos hlt],λg hg=>?_⟩
  rw[show (X.join Y).w.heap[g.1]?=X.w.heap[g.1]? from hblk _ (hi.block_lt h hl hg)]
  exact(hi.blk i db h).same hl g hg
 .rcases kJ h with⟨hlt,h1⟩|⟨j,db',rfl,h1,rfl⟩
  .simp only[Ctx.join] at hg;grind
  .rw[lQ] at hg;rw[DB.sh_live] at hl;rw[DB.sh_fix] at hf;rcases hs.mine j db' g h1 hl hf hg with h|⟨_,_,_,h,_⟩
   .exact .inl h
   .simp[Ctx.bare] at h
 .rcases hs.upper b hb with h|h|⟨_,_,_,h,_⟩
  .exact .inl h
  .exact .inr (.inl h)
  .simp[Ctx.bare] at h
theorem HInv.join{Y:Ctx}(hi:HInv X)(hs:Step X.bare Y)(hy:HInv Y):HInv (X.join Y):=by
 have hblk:∀b,b<X.w.heap.size->Y.w.heap[b]?=X.w.heap[b]? := λb hb=>hs.frame b hb λid db g h=>by simp[Ctx.bare] at h
 have hst:=Step.join hi hs;have hup:∀b,Y.S b->X.S b∨X.w.heap.size<=b:=λb hb=>by
  rcases hs.upper b hb with h|h|⟨_,_,_,h,_⟩
  .exact .inl h
  .exact .inr h
  .simp[Ctx.bare] at h
 have hmine:∀j db g,Y.h[j]?=some db->db.live=true->db.fix=false->Y.G j=some g->X.w.heap.size<=g.1:=λj db g h1 h2 h3 h4=>by
  rcases hs.mine j db g h1 h2 h3 h4 with h|⟨_,_,_,h,_⟩
  .exact h
  .simp[Ctx.bare] at h
 refine⟨hy.slt,λi db h=>?_,λi db g h hl hg=>?_,λi d i' d' g g' h hl hf h' hl' hg hg' he=>?_⟩
 .rcases kJ h with⟨hlt,h1⟩|⟨j,db',rfl,h1,rfl⟩
  .by_cases hl:db.live=true
   .exact(hi.blk i db h1).move hst (by simp only[Ctx.join];rw[if_pos hlt]) λg hg=>hblk _ (hi.block_lt h1 hl hg)
   .cases db<;>simp_all[DB.live,eC]
  .exact(hy.blk j db' h1).join
 .rcases kJ h with⟨hlt,h1⟩|⟨j,db',rfl,h1,rfl⟩
  .simp only[Ctx.join] at hg ⊢;rw[if_pos hlt] at hg;have:=hi.own i db g h1 hl hg;refine⟨λhf hb=>?_,λhf=>(hs.kept _ (this.2 hf)).1⟩;rcases hup _ hb with h2|h2
   .simp_all
   .have:=hi.block_lt h1 hl hg;omega
  .rw[lQ] at hg;rw[DB.sh_live] at hl;rw[DB.sh_fix];exact hy.own j db' g h1 hl hg
 .rcases kJ h with⟨hlt,h1⟩|⟨j,db,rfl,h1,rfl⟩<;>rcases kJ h' with⟨hlt',h1'⟩|⟨j',db',rfl,h1',rfl⟩
  .simp only[Ctx.join] at hg hg';rw[if_pos hlt] at hg;rw[if_pos hlt'] at hg';exact hi.inj i d i' d' g g' h1 hl hf h1' hl' hg hg' he
  .simp only[Ctx.join] at hg;rw[if_pos hlt] at hg;rw[lQ] at hg';rw[DB.sh_live] at hl';exfalso;have hb:=hi.block_lt h1 hl hg;by_cases hfx:db'.fix=false
   .grind
   .have hS:=(hy.own j' db' g' h1' hl' hg').2 (by simpa using hfx);rw[<- he] at hS;rcases hup _ hS with h2|h2
    .exact(hi.own i d g h1 hl hg).1 hf h2
    .omega
  .rw[lQ] at hg;simp only[Ctx.join] at hg';rw[if_pos hlt'] at hg';rw[DB.sh_live] at hl;rw[DB.sh_fix] at hf;have hb:=hi.block_lt h1' hl' hg';grind
  .rw[lQ] at hg hg';rw[DB.sh_live] at hl hl';rw[DB.sh_fix] at hf;have:=hy.inj j db j' db' g g' h1 hl hf h1' hl' hg hg' he;omega
theorem aA.frame{P:Program}(h:aD)(hp:iF h args=some args')(hc:aA P f args' [] R):
  aA P f args h λd h'=>∃d0 h0,R d0 h0/\d=d0.sh h.length/\h'=sN h (lZ args)++h0.map (DB.sh h.length):=by
 intro X vals hh hi gd hr;subst hh;obtain⟨Xf,hw,hh,hG,hst,hif,hfx⟩:=jD (lZ args) hi;have hra:dI Xf.bare args' vals:=mL (Y:=Xf.bare) hi hst hw rfl rfl hr hp hfx;have hlen:Xf.h.length=X.h.length:=by rw[hh,sO]
 have key:∀v w',Ret Xf.bare R v w'->Ret X (λd h'=>∃d0 h0,R d0 h0/\d=d0.sh X.h.length/\h'=sN X.h (lZ args)++h0.map (DB.sh X.h.length)) v w':=by
  rintro v w' ⟨d,Y,h1,h2,h3,h4,h5⟩;refine⟨d.sh Xf.h.length,Xf.join Y,h1,HInv.join hif h3 h2,hst.trans hif (Step.join hif h3),h4.join,d,Y.h,h5,by rw[hlen],?_⟩
  show Xf.h++_=_;rw[hlen,hh]
 have hwb:Xf.bare.w=X.w:=hw;rcases hc Xf.bare vals rfl hif.bare (show Gnd P Xf from gd.step hst) hra with⟨h1,h2⟩|⟨v,w',h1,h2⟩
 .rw[hwb] at h1 h2;exact .inl ⟨h1,h2.mono λe w' ⟨v,he,hv⟩=>⟨v,he,key v w' hv⟩⟩
 .rw[hwb] at h1;exact .inr ⟨v,w',h1,key v w' h2⟩
def zJf: PV->Bool
 | .sl _ es=>es.isEmpty
 | _=>true
def QG: CV->Bool
 | .p x=>zJf x
 | .clo _ []=>true
 | _=>false
def zFb: EV->Bool
 | .c x=>QG x
 | .agg xs=>xs.all QG
def QH: DV->Bool
 | .jk=>true
 | .c x=>QG x
 | .agg xs=>xs.all QG
 | .tup xs=>xs.all zFb
theorem zFd{w w':World}{S S':Nat->Prop}{x:PV}{v:Value}(hf:zJf x=true)(h:cZ w S x v):cZ w' S' x v:=by
 cases x<;>simp only[zJf] at hf<;>simp only[cZ] at h ⊢<;>try exact h
 simp_all
theorem BF{Y:Ctx}{x:CV}{v:Value}(hf:QG x=true)(h:cA X x v):cA Y x v:=by
 unfold QG at hf;split at hf
 .simp only[cA] at h ⊢;exact zFd hf h
 .simp only[cA] at h ⊢;obtain⟨vs,h1,h2⟩:=h;refine⟨vs,h1,?_⟩;cases vs with
  | nil=>exact True.intro
  | cons _ _=>exact h2.elim
 .cases hf
theorem wD{Y:Ctx}:∀{xs:List CV} {vs:List Value},xs.all QG=true->bF X xs vs->bF Y xs vs
 | [],[],_,_=>True.intro
 | _::_,_::_,hf,h=>by
  simp only[List.all_cons,Bool.and_eq_true] at hf;exact⟨BF hf.1 h.1,wD hf.2 h.2⟩
 | [],_::_,_,h=>h.elim
 | _::_,[],_,h=>h.elim
theorem zFc{Y:Ctx}{x:EV}{v:Value}(hf:zFb x=true)(h:eD X x v):eD Y x v:=by
 cases x<;>simp only[zFb] at hf<;>simp only[eD] at h ⊢
 .exact BF hf h
 .obtain⟨vs,h1,h2⟩:=h;exact⟨vs,h1,wD hf h2⟩
theorem FV{Y:Ctx}:∀{xs:List EV} {vs:List Value},xs.all zFb=true->cO X xs vs->cO Y xs vs
 | [],[],_,_=>True.intro
 | _::_,_::_,hf,h=>by
  simp only[List.all_cons,Bool.and_eq_true] at hf;exact⟨zFc hf.1 h.1,FV hf.2 h.2⟩
 | [],_::_,_,h=>h.elim
 | _::_,[],_,h=>h.elim
theorem zFa{Y:Ctx}{x:DV}{v:Value}(hf:QH x=true)(h:bD X x v):bD Y x v:=by
 cases x<;>simp only[QH] at hf<;>simp only[bD] at h ⊢
 .exact BF hf h
 .obtain⟨vs,h1,h2⟩:=h;exact⟨vs,h1,wD hf h2⟩
 .obtain⟨vs,h1,h2⟩:=h;exact⟨vs,h1,FV hf h2⟩
theorem HInv.hold{w':World}(hi:HInv X)(hsz:X.w.heap.size<=w'.heap.size)(hos:w'.os=X.w.os)(htp:w'.tape=X.w.tape)(hou:tM X.w w')
 (hblk:∀b,b<X.w.heap.size->w'.heap[b]?=X.w.heap[b]?):Step X ⟨w',X.S,X.G,X.h⟩/\HInv ⟨w',X.S,X.G,X.h⟩:=by
 have hst:Step X ⟨w',X.S,X.G,X.h⟩:=by
  refine⟨hsz,hos,htp,hou,λb hb=>⟨hb,hblk b (hi.slt b hb)⟩,Nat.le_refl _,λi db hlt h hl=>⟨db,h,cM.refl hl,rfl,λg hg=>?_⟩,λb hb _=>hblk b hb,λi db g h hl hf hg=>.inr ⟨i,db,g,h,hl,hf,hg,rfl⟩,λb hb=>.inl hb⟩;rw[show w'.heap[g.1]?=X.w.heap[g.1]? from hblk _ (hi.block_lt h hl hg)]
  exact(hi.blk i db h).same hl g hg
 refine⟨hst,λb hb=>Nat.lt_of_lt_of_le (hi.slt b hb) hsz,λi db h=>?_,hi.own,hi.inj⟩;by_cases hl:db.live=true
 .exact(hi.blk i db h).move hst rfl λg hg=>hblk _ (hi.block_lt h hl hg)
 .cases db<;>simp_all[DB.live,eC]
theorem aA.flat{P:Program}(h:aD)(hp:iF h args=some args')(hfl:∀d h0,R d h0->QH d=true)(hc:aA P f args' [] R):
  aA P f args h λd h'=>(∃h0,R d h0)/\h'=h:=by
 intro X vals hh hi gd hr;subst hh;obtain⟨Xf,hw,hh,hG,hst,hif,hfx⟩:=jD (lZ args) hi;have hra:dI Xf.bare args' vals:=mL (Y:=Xf.bare) hi hst hw rfl rfl hr hp hfx;have hwb:Xf.bare.w=X.w:=hw;have key:∀v w',Ret Xf.bare R v w'->Ret X (λd h'=>(∃h0,R d h0)/\h'=X.h) v w':=by
  rintro v w' ⟨d,Y,h1,h2,h3,h4,h5⟩;have hsz:=h3.size;have hfr:=h3.frame;rw[hwb] at hsz hfr;obtain⟨h6,h7⟩:=HInv.hold (w':=Y.w) hi hsz (by rw[h3.os,hwb]) (by rw[h3.tape,hwb]) (by rw[<- hwb];exact h3.output) λb hb=>hfr b hb λid db g h=>by simp[Ctx.bare] at h
  exact⟨d,⟨Y.w,X.S,X.G,X.h⟩,h1,h7,h6,zFa (hfl _ _ h5) h4,⟨_,h5⟩,rfl⟩
 rcases hc Xf.bare vals rfl hif.bare (show Gnd P Xf from gd.step hst) hra with⟨h1,h2⟩|⟨v,w',h1,h2⟩
 .rw[hwb] at h1 h2;exact .inl ⟨h1,h2.mono λe w' ⟨v,he,hv⟩=>⟨v,he,key v w' hv⟩⟩
 .rw[hwb] at h1;exact .inr ⟨v,w',h1,key v w' h2⟩
end Go.Dm
end
section
namespace Go.Dm
open Go
inductive TK where
 | no|bool|int (k:IntKind)|float|str|ptr (e:Nat)|slice (e:Nat)|array (n e:Nat)|map (k e:Nat)|struct (fs:List (Nat × Nat))|func|iface
structure TI where
 k:TK
 size:Nat
 bytes:Nat
 zero:List PV
abbrev Tab:= Nat->TI
variable {T:Tab}
def TK.agg: TK->Bool
 | .array _ _=>true
 | .struct _=>true
 | _=>false
def gX: PV->Option Value
 | .b x=>some (.bool x)
 | .i k n=>some (.int k n)
 | .s l=>some (.string ⟨l.toArray⟩)
 | .f x=>some (.float .f64 x)
 | .nil=>some (.slice none 0 0)
 | .sl _ _=>none
 | .o x=>if x.oneCell' then some x else none
def iR: Option TypeDesc->TK->Prop
 | some .bool,.bool=>True
 | some (.int k),.int k'=>k=k'
 | some (.float k),.float=>k=.f64
 | some .string,.str=>True
 | some (.pointer e),.ptr e'=>e=e'
 | some (.slice e),.slice e'=>e=e'
 | some (.array n e),.array n' e'=>n=n'/\e=e'
 | some (.map k e),.map k' e'=>k=k'/\e=e'
 | some (.struct fs),.struct fs'=>fs.toList.map (λf=>(f.type,f.offset))=fs'
 | some (.func _ _ _),.func=>True
 | some (.interface _),.iface=>True
 | _,_=>False
def zN8(P:Program)(t:Nat)(ti:TI):Prop :=
 match ti.k with
 | .no=>ti.size=0
 | k=>iR (P.underlying t) k/\∃i z,P.info? t=some i/\i.size=ti.size/\i.bytes=ti.bytes/\i.zero=some z/\ti.zero.map gX=z.cells.toList.map some/\ti.size=ti.zero.length /\
   (k.agg=true->∃cs,z=.agg cs)/\(k.agg=false->ti.size=1/\z.oneCell'=true)
def bM(P:Program)(T:Tab):Prop:=∀t,zN8 P t (T t)
def NY: Value->DV
 | .bool x=>.c (.p (.b x))
 | .int k n=>.c (.p (.i k n))
 | .float .f64 x=>.c (.p (.f x))
 | .string s=>.c (.p (.s s.data.toList))
 | .slice none 0 0=>.c (.p .nil)
 | .pointer none=>.c (.p (.o (.pointer none)))
 | .map none=>.c (.p (.o (.map none)))
 | .nilFunc=>.c (.p (.o .nilFunc))
 | .nilIface=>.c (.p (.o .nilIface))
 | _=>.jk
abbrev Fr:= List (Nat × DV)
def look: Fr->Nat->DV
 | [],_=>.jk
 | p::t,i=>if i=p.1 then p.2 else look t i
def evD(t:Fr):Operand->DV
 | .tmp i=>look t i
 | .const v=>NY v
 | .global g=>.c (.p (.o (.pointer (some ⟨g,0,none⟩))))
 | .func f=>.c (.clo f [])
def EV.toDV: EV->DV
 | .c x=>.c x
 | .agg xs=>.agg xs
def KV.toDV: KV->DV
 | .p x=>.c (.p x)
 | .ptr id off=>.c (.ptr id off)
def cellsD: DV->Option (List CV)
 | .c x=>some [x]
 | .agg xs=>some xs
 | _=>none
def bits(op:BinOp)(k:IntKind)(a b:Int):Int :=
 let x:=BitVec.ofInt k.bits a
 let y:=BitVec.ofInt k.bits b
 match op with
 | .and=>k.wrap (x &&& y).toNat
 | .or=>k.wrap (x ||| y).toNat
 | .xor=>k.wrap (x ^^^ y).toNat
 | .andNot=>k.wrap (x &&& ~~~y).toNat
 | _=>0
def zOy(op:BinOp)(k:IntKind)(a b:Int)(K:PV->Prop):Prop :=
 match op with
 | .add=>K (.i k (k.wrap (a+b)))
 | .sub=>K (.i k (k.wrap (a-b)))
 | .mul=>K (.i k (k.wrap (a*b)))
 | .quo=>b≠0/\K (.i k (k.wrap (a.tdiv b)))
 | .rem=>b≠0/\K (.i k (a.tmod b))
 | .and=>K (.i k (bits .and k a b))
 | .or=>K (.i k (bits .or k a b))
 | .xor=>K (.i k (bits .xor k a b))
 | .andNot=>K (.i k (bits .andNot k a b))
 | .eql=>K (.b (a==b))
 | .neq=>K (.b (a != b))
 | .lss=>K (.b (decide (a<b)))
 | .leq=>K (.b (decide (a<=b)))
 | .gtr=>K (.b (decide (b<a)))
 | .geq=>K (.b (decide (b<=a)))
 | _=>False
def cD: List UInt8->List UInt8->Bool:=Op.bytesLess
def zOK(op:BinOp)(a b:List UInt8)(K:PV->Prop):Prop :=
 match op with
 | .add=>a.length+b.length<=9223372036854775807/\K (.s (a++b))
 | .eql=>K (.b (a==b))
 | .neq=>K (.b (!(a==b)))
 | .lss=>K (.b (cD a b))
 | .leq=>K (.b (cD a b || a==b))
 | .gtr=>K (.b (!(cD a b || a==b)))
 | .geq=>K (.b (!cD a b))
 | _=>False
def VQ(a b:Nat):Option Ordering:=FloatKind.f64.format.order a b
def zOw(op:BinOp)(a b:Nat)(K:PV->Prop):Prop :=
 match op with
 | .eql=>K (.b (VQ a b==some .eq))
 | .neq=>K (.b (VQ a b != some .eq))
 | .lss=>K (.b (VQ a b==some .lt))
 | .leq=>K (.b (VQ a b==some .lt || VQ a b==some .eq))
 | .gtr=>K (.b (VQ a b==some .gt))
 | .geq=>K (.b (VQ a b==some .gt || VQ a b==some .eq))
 | _=>False
def zF9: PV->(Bool->Prop)->Prop
 | .nil,K=>K true
 | .sl _ (_::_),K=>K false
 | .sl _ [],K=>K true/\K false
 | _,_=>False
def PD(op:BinOp)(T:TI)(x y:DV)(K:PV->Prop):Prop :=
 match x,y with
 | .c (.p (.i k a)),.c (.p (.i k' b)) =>
  match op with
  | .shl=>0<=b/\K (.i k (k.wrap (a*2 ^ (min b.toNat k.bits))))
  | .shr=>0<=b/\K (.i k (a.fdiv (2 ^ (min b.toNat k.bits))))
  | op=>k=k'/\zOy op k a b K
 | .c (.p (.s a)),.c (.p (.s b))=>zOK op a b K
 | .c (.p (.f a)),.c (.p (.f b))=>zOw op a b K
 | .c (.p (.b a)),.c (.p (.b b)) =>
  match T.k,op with
  | .bool,.eql=>K (.b (a==b))
  | .bool,.neq=>K (.b (!(a==b)))
  | _,_=>False
 | .c (.p x),.c (.p .nil) =>
  match T.k,op with
  | .slice _,.eql=>zF9 x λb=>K (.b b)
  | .slice _,.neq=>zF9 x λb=>K (.b (!b))
  | _,_=>False
 | _,_=>False
def zDg(P:Program)(ty:TypeId)(xs ys:List PV)(b:Bool):Prop:=P.eqGuardType P.depth ty=false /\
 ∀(vx vy:List Value) (w:World),xs.map gX=vx.map some->ys.map gX=vy.map some->(Op.equalIn 10000 ty (.agg vx.toArray) (.agg vy.toArray)).run P w=.ok b w
def zOs(P:Program)(op:BinOp)(ty:TypeId)(x y:DV)(K:PV->Prop):Prop :=
 ∃xs ys b,x=.agg (xs.map .p)/\y=.agg (ys.map .p)/\xs.all (λx=>(gX x).isSome)=true/\ys.all (λx=>(gX x).isSome)=true/\zDg P ty xs ys b/\((op=.eql/\K (.b b))∨(op=.neq/\K (.b (!b))))
def dun(op:UnOp)(x:DV)(K:PV->Prop):Prop :=
 match op,x with
 | .not,.c (.p (.b a))=>K (.b (!a))
 | .neg,.c (.p (.i k a))=>K (.i k (k.wrap (0-a)))
 | .xor,.c (.p (.i k a))=>K (.i k (bits .xor k (if k.signed then -1 else k.max) a))
 | _,_=>False
def vY(T:TI)(h:aD)(a:DV)(K:DV->Prop):Prop :=
 match a with
 | .c (.ptr id off) =>
  match h[id]? with
  | some (.box cells) =>
   if T.k.agg then off+T.size<=cells.length/\K (.agg ((cells.drop off).take T.size))
   else match cells[off]? with
    | some c=>K (.c c)
    | none=>False
  | _=>False
 | .c (.aptr id i j) =>
  match h[id]? with
  | some (.arr k es _) =>
   if T.k.agg then i<es.length/\j+T.size<=k/\K (.agg ((((es.getD i []).drop j).take T.size).map .p))
   else i<es.length/\j<k/\K (.c (.p ((es.getD i []).getD j .nil)))
  | _=>False
 | .c (.eptr cs) =>
  if T.k.agg then T.size<=cs.length/\K (.agg ((cs.take T.size).map .p))
  else match cs with
   | c::_=>K (.c (.p c))
   | []=>False
 | _=>False
def PT(T:TI)(h:aD)(a x:DV)(K:aD->Prop):Prop :=
 match cellsD x with
 | none=>False
 | some ys=>T.size≠0/\ys.length=T.size /\
  match a with
  | .c (.ptr id off) =>
   match h[id]? with
   | some (.box cells)=>off+ys.length<=cells.length/\K (h.set id (.box (splice cells off ys)))
   | _=>False
  | .c (.aptr id i j) =>
   match (sN h (BM ys))[id]?,pvs h ys with
   | some (.arr k es false),some xs=>i<es.length/\j+xs.length<=k/\K ((sN h (BM ys)).set id (.arr k (es.set i (splice (es.getD i []) j xs)) false))
   | _,_=>False
  | _=>False
def PH(T:Tab)(s:Nat)(h:aD)(x:DV)(f:Nat)(K:DV->Prop):Prop :=
 match (T s).k with
 | .struct fs =>
  match fs[f]? with
  | some (ft,off)=>(T ft).size≠0 /\
   match x with
   | .c (.ptr id o) =>
    match h[id]? with
    | some (.box _)=>K (.c (.ptr id (o+off)))
    | _=>False
   | .c (.aptr id i j) =>
    match h[id]? with
    | some (.arr _ _ _)=>K (.c (.aptr id i (j+off)))
    | _=>False
   | .c (.eptr cs)=>K (.c (.eptr (cs.drop off)))
   | _=>False
  | none=>False
 | _=>False
def zEe(T:TI)(cells:List CV)(off:Nat)(K:DV->Prop):Prop :=
 T.size≠0/\if T.k.agg then off+T.size<=cells.length/\K (.agg ((cells.drop off).take T.size))
 else match cells[off]? with
  | some c=>K (.c c)
  | none=>False
def AW(T:Tab)(t:Nat)(h:aD)(x i:DV)(K:DV->Prop):Prop :=
 match (T t).k,x,i with
 | .slice e,.c (.p (.sl k es)),.c (.p (.i _ n))=>(T e).size≠0/\(T e).size=k/\0<=n/\n<es.length/\K (.c (.eptr (es.getD n.toNat [])))
 | .slice e,.c (.own id off len),.c (.p (.i _ n)) =>
  match h[id]? with
  | some (.arr k _ _)=>(T e).size≠0/\(T e).size=k/\0<=n/\n<len/\K (.c (.aptr id (off+n.toNat) 0))
  | _=>False
 | .slice e,.c (.bs id len),.c (.p (.i _ n)) =>
  match h[id]? with
  | some (.box _)=>(T e).size=1/\0<=n/\n<len/\K (.c (.ptr id n.toNat))
  | _=>False
 | .array len e,.c (.ptr id off),.c (.p (.i _ n)) =>
  match h[id]? with
  | some (.box _)=>(T e).size≠0/\2<=len/\0<=n/\n<len/\K (.c (.ptr id (off+n.toNat*(T e).size)))
  | _=>False
 | .array len e,.c (.p (.o (.pointer (some ⟨g,0,none⟩)))),.c (.p (.i _ n))=>(T e).size=1/\0<=n/\n<len/\n<(said g).length/\K (.c (.eptr [((said g).getD n.toNat (.i 0)).pv]))
 | _,_,_=>False
def PJ(T:Tab)(t:Nat)(x i:DV)(K:DV->Prop):Prop :=
 match (T t).k,x,i with
 | .str,.c (.p (.s l)),.c (.p (.i _ n))=>0<=n/\n<l.length/\K (.c (.p (.i .u8 (l.getD n.toNat 0).toNat)))
 | .array len e,.agg cells,.c (.p (.i _ n))=>(T e).size≠0/\0<=n/\n<len/\zEe (T e) cells (n.toNat*(T e).size) K
 | _,_,_=>False
def bnd(t:Fr)(o:Option Operand)(d:Int)(K:Int->Prop):Prop :=
 match o with
 | none=>K d
 | some x=>match evD t x with
  | .c (.p (.i _ n))=>K n
  | _=>False
def PS(T:Tab)(ty:Nat)(h:aD)(x:DV)(lo hi:Int->(Int->Prop)->Prop)(K:DV->Prop):Prop :=
 match (T ty).k,x with
 | .str,.c (.p (.s l))=>lo 0 λa=>hi l.length λb=>0<=a/\a<=b/\b<=l.length/\K (.c (.p (.s ((l.take b.toNat).drop a.toNat))))
 | .slice e,.c (.p (.sl k es))=>(T e).size≠0/\(T e).size=k/\lo 0 λa=>hi es.length λb=>0<=a/\a<=b/\b<=es.length/\K (.c (.p (.sl k ((es.take b.toNat).drop a.toNat))))
 | .slice e,.c (.p .nil)=>(T e).size≠0/\lo 0 λa=>hi 0 λb=>0<=a/\a<=b/\b<=0/\K (.c (.p .nil))
 | .slice e,.c (.own id off len) =>
  match h[id]? with
  | some (.arr k _ _)=>(T e).size≠0/\(T e).size=k/\lo 0 λa=>hi len λb=>0<=a/\a<=b/\b<=len/\K (.c (.own id (off+a.toNat) (b.toNat-a.toNat)))
  | _=>False
 | _,_=>False
def zDT(T:Tab)(ty:Nat)(x:DV)(lo hi mx:Int->(Int->Prop)->Prop)(K:DV->Prop):Prop :=
 match (T ty).k,x with
 | .slice e,.c (.p (.sl k es))=>(T e).size≠0/\(T e).size=k/\lo 0 λa=>hi (-1) λb=>mx (-1) λc=>a=0/\b=c/\0<=b/\b<=es.length/\K (.c (.full k (es.take b.toNat)))
 | _,_=>False
def byteOf: List PV->Option UInt8
 | [.i .u8 n]=>some (UInt8.ofNat n.toNat)
 | _=>none
def bytesOf: List (List PV)->Option (List UInt8)
 | []=>some []
 | e::es=>match byteOf e,bytesOf es with
  | some b,some l=>some (b::l)
  | _,_=>none
def bU(l:List UInt8):List (List PV):=l.map λb=>[.i .u8 b.toNat]
def BB(h:aD):DV->Option (List (List PV))
 | .c (.p .nil)=>some []
 | .c (.p (.sl _ es))=>some es
 | .c (.own id off len) =>
  match h[id]? with
  | some (.arr _ es _)=>some ((es.drop off).take len)
  | _=>none
 | _=>none
def zDQ(T:Tab)(src dst:Nat)(x:DV)(h:aD)(K:DV->aD->Prop):Prop :=
 match (T src).k,(T dst).k,x with
 | .int _,.int k,.c (.p (.i _ n))=>K (.c (.p (.i k (k.wrap n)))) h
 | .str,.str,.c (.p (.s l))=>K (.c (.p (.s l))) h
 | .slice e,.str,x =>
  match (T e).k,BB h x with
  | .int .u8,some es =>
   match bytesOf es with
   | some l=>K (.c (.p (.s l))) h
   | none=>False
  | _,_=>False
 | .str,.slice e,.c (.p (.s l)) =>
  match (T e).k with
  | .int .u8=>(T e).size=1/\l.length<=140737488355328/\K (.c (.own h.length 0 l.length)) (h++[.arr 1 (bU l) false])
  | _=>False
 | .slice e,.slice _,.c (.own id off len) =>
  match h[id]? with
  | some (.arr k _ false)=>src=dst/\(T e).k=.int .u8/\0<len/\k=1/\K (.c (.own id off len)) h
  | _=>False
 | _,_,_=>False
def yG(T:Tab)(place:Nat->Option (Nat × Nat)):List CV->List (Nat × DV)->Option (List CV)
 | cells,[]=>some cells
 | cells,(i,d)::rest =>
  match place i,cellsD d with
  | some (off,size),some ys=>if ys.length=size/\off+size<=cells.length then yG T place (splice cells off ys) rest else none
  | _,_=>none
def zDP(T:Tab)(t:Nat)(parts:List (Nat × DV))(K:DV->Prop):Prop :=
 match (T t).k with
 | .struct fs=>(∀f∈fs,(T f.1).size≠0) /\
  match yG T (λi=>(fs[i]?).map λf=>(f.2,(T f.1).size)) ((T t).zero.map .p) parts with
  | some cells=>K (.agg cells)
  | none=>False
 | .array _ e=>(T e).size≠0 /\
  match yG T (λi=>some (i*(T e).size,(T e).size)) ((T t).zero.map .p) parts with
  | some cells=>K (.agg cells)
  | none=>False
 | _=>False
def cellss: List DV->Option (List (List CV))
 | []=>some []
 | d::ds=>match cellsD d,cellss ds with
  | some c,some cs=>some (c::cs)
  | _,_=>none
def zLv(h:aD):List (List CV)->Option (List (List PV))
 | []=>some []
 | c::cs=>match pvs h c,zLv h cs with
  | some x,some xs=>some (x::xs)
  | _,_=>none
def zMI: List (List CV)->List Nat
 | []=>[]
 | c::cs=>BM c++zMI cs
def AP(T:Tab)(t len:Nat)(parts:List (Nat × DV))(h:aD)(K:DV->aD->Prop):Prop :=
 match (T t).k with
 | .slice e=>0<(T e).size/\(T e).zero.length=(T e).size/\len*(T e).size<=16777216/\parts.map (·.1)=List.range len /\
  match cellss (parts.map (·.2)) with
  | some cs =>
   match zLv h cs with
   | some es=>(∀e'∈es,e'.length=(T e).size)/\K (.c (.own h.length 0 len)) (sN h (zMI cs)++[.arr (T e).size es false])
   | none=>False
  | none=>False
 | _=>False
def dlen(T:TI)(h:aD)(x:DV)(K:DV->Prop):Prop :=
 match T.k,x with
 | .str,.c (.p (.s l))=>K (.c (.p (.i .i64 l.length)))
 | .slice _,.c (.p (.sl _ es))=>K (.c (.p (.i .i64 es.length)))
 | .slice _,.c (.p .nil)=>K (.c (.p (.i .i64 0)))
 | .slice _,.c (.own id _ len) =>
  match h[id]? with
  | some (.arr _ _ _)=>K (.c (.p (.i .i64 len)))
  | _=>False
 | .array n _,_=>K (.c (.p (.i .i64 n)))
 | _,_=>False
def zAW: DV->Nat->Bool
 | .c (.own j _ _),id=>j==id
 | _,_=>false
def AN(T:Tab)(t u:Nat)(dst src:DV)(h:aD)(K:DV->aD->Prop):Prop :=
 match (T t).k,(T u).k,BB h src with
 | .slice e,.slice e',some news=>e=e'/\0<(T e).size/\(∀x∈news,x.length=(T e).size) /\
  match dst with
  | .c (.p .nil)=>news.length*(T e).bytes<=140737488355328/\news.length<=9223372036854775807/\K (.c (.own h.length 0 news.length)) (h++[.arr (T e).size news false])
  | .c (.full k es)=>k=(T e).size/\0<news.length/\(es.length+news.length)*(T e).bytes<=140737488355328/\es.length+news.length<=9223372036854775807/\K (.c (.own h.length 0 (es.length+news.length))) (h++[.arr (T e).size (es++news) false])
  | .c (.own id off len) =>
   match h[id]? with
   | some (.arr k es false) =>
    bif zAW src id then
     k=(T e).size/\off+len<=es.length/\(len+news.length)*(T e).bytes<=140737488355328/\len+news.length<=9223372036854775807 /\
     K (.c (.own (h.length+1) 0 (len+news.length))) (h.set id .dead++[.dead,.arr k ((es.drop off).take len++news) false])
    else
     k=(T e).size/\off+len=es.length/\(len+news.length)*(T e).bytes<=140737488355328/\len+news.length<=9223372036854775807 /\
     K (.c (.own h.length 0 (len+news.length))) (h.set id .dead++[.arr k (es.drop off++news) false])
   | _=>False
  | _=>False
 | _,_,_=>False
def dmm(lt:Bool)(xs:List DV)(K:DV->Prop):Prop :=
 match xs with
 | [.c (.p (.i k a)),.c (.p (.i _ b))]=>K (.c (.p (.i k (if lt then (if b<a then b else a) else (if a<b then b else a)))))
 | _=>False
def zD1(T:Tab)(t:Nat)(l c:DV)(h:aD)(K:DV->aD->Prop):Prop :=
 match (T t).k,l,c with
 | .slice e,.c (.p (.i .i64 n)),.c (.p (.i .i64 m))=>0<=n/\n<=m/\m<=9223372036854775807/\m*(T e).bytes<=140737488355328/\0<(T e).size/\(T e).zero.length=(T e).size /\
   K (.c (.own h.length 0 n.toNat)) (h++[.arr (T e).size (List.replicate n.toNat (T e).zero) false])
 | _,_,_=>False
def JT: List DV->Option (List KV)
 | []=>some []
 | .c (.p x)::ds=>(JT ds).map (KV.p x :: ·)
 | .c (.ptr id off)::ds=>(JT ds).map (KV.ptr id off :: ·)
 | _=>none
def PG(T:Tab)(t:Nat)(d:DV)(h:aD)(K:DV->aD->Prop):Prop :=
 match (T t).k,d with
 | .slice e,.c (.own id off len) =>
  match h[id]? with
  | some (.arr k es false)=>0<(T e).size/\(T e).size=k/\off+len<=es.length/\K (.tup []) (h.set id (.arr k (es.take off++(List.replicate len (T e).zero++es.drop (off+len))) false))
  | _=>False
 | _,_=>False
def zPn: BinOp->DV->DV->Option (Nat × Bool)
 | .eql,.c (.ptr id _),.c (.p (.o (.pointer none)))=>some (id,false)
 | .neq,.c (.ptr id _),.c (.p (.o (.pointer none)))=>some (id,true)
 | _,_,_=>none
def zOg(k:TK)(d:Option DB)(b:Bool)(h:aD)(K:DV->aD->Prop):Prop :=
 match k,d with
 | .ptr _,some (.box _)=>K (.c (.p (.b b))) h
 | _,_=>False
def oW: List (Int × PV)->Int->PV->PV
 | [],_,z=>z
 | e::es,n,z=>if e.1=n then e.2 else oW es n z
def zDc: List (Int × PV)->Int->Bool
 | [],_=>false
 | e::es,n=>if e.1=n then true else zDc es n
def EJ: List (Int × PV)->Int->PV->List (Int × PV)
 | [],n,x=>[(n,x)]
 | e::es,n,x=>if e.1=n then (n,x)::es else e::EJ es n x
def PN(k:TK)(h:aD)(K:DV->aD->Prop):Prop :=
 match k with
 | .map _ _=>K (.c (.mp h.length)) (h++[.mp []])
 | _=>False
def zAH(T:Tab)(k:TK)(x:PV):PV :=
 match k,x with
 | .slice e,.nil=>.sl (T e).size []
 | _,x=>x
theorem zM6{k:TK}{n:Nat}{es:List (List PV)}:zAH T k (.sl n es)=.sl n es:=by cases k<;>rfl
theorem zPe{k:TK}{b:Bool}:zAH T k (.b b)=.b b:=by cases k<;>rfl
theorem zPf{k:TK}{j:IntKind}{n:Int}:zAH T k (.i j n)=.i j n:=by cases k<;>rfl
theorem zPg{k:TK}{l:List UInt8}:zAH T k (.s l)=.s l:=by cases k<;>rfl
theorem zJU{e:Nat}:zAH T (.slice e) .nil=.sl (T e).size []:=rfl
def zOX: TK->Bool
 | .int .i64=>true
 | _=>false
def zDZ(T:Tab)(k:TK)(h:aD)(m x:DV)(ok:Bool)(K:DV->Prop):Prop :=
 match k,m,x with
 | .map kt et,.c (.mp id),.c (.p (.i .i64 n)) =>
  match h[id]?,(T et).zero with
  | some (.mp es),[z]=>zOX (T kt).k=true/\(T et).k≠.no/\(T et).k.agg=false /\
   match ok with
   | true=>K (.tup [.c (.p (oW es n (zAH T (T et).k z))),.c (.p (.b (zDc es n)))])
   | false=>K (.c (.p (oW es n (zAH T (T et).k z))))
  | _,_=>False
 | _,_,_=>False
def zD4(T:Tab)(k:TK)(h:aD)(m x v:DV)(K:aD->Prop):Prop :=
 match k,m,x,v with
 | .map kt et,.c (.mp id),.c (.p (.i .i64 n)),.c c =>
  match (sN h (zFm c))[id]?,SK h c with
  | some (.mp es),some y=>zOX (T kt).k=true/\K ((sN h (zFm c)).set id (.mp (EJ es n (zAH T (T et).k y))))
  | _,_=>False
 | _,_,_,_=>False
def dop(P:Program)(T:Tab)(op:Op)(t:Fr)(h:aD)(K:DV->aD->Prop):Prop :=
 match op with
 | .move x=>K (evD t x) h
 | .assign x=>K (evD t x) h
 | .pick c a b =>
  match evD t c with
  | .c (.p (.b v))=>(v=true->K (evD t a) h)/\(v=false->K (evD t b) h)
  | _=>False
 | .alloc ty =>
  match (T ty).k with
  | .no=>False
  | _=>K (.c (.ptr h.length 0)) (h++[.box ((T ty).zero.map .p)])
 | .box _ x =>
  match cellsD (evD t x) with
  | some ys=>K (.c (.ptr h.length 0)) (h++[.box ys])
  | none=>False
 | .build ty parts=>zDP T ty (parts.toList.map λp=>(p.1,evD t p.2)) λd=>K d h
 | .buildSlice ty len parts=>AP T ty len (parts.toList.map λp=>(p.1,evD t p.2)) h K
 | .load ty a=>(T ty).size≠0/\vY (T ty) h (evD t a) λd=>K d h
 | .store ty a x=>PT (T ty) h (evD t a) (evD t x) λh'=>K (.tup []) h'
 | .nilCheck x =>
  match evD t x with
  | .c (.ptr id off) =>
   match h[id]? with
   | some (.box _)=>K (.c (.ptr id off)) h
   | _=>False
  | .c (.eptr cs)=>K (.c (.eptr cs)) h
  | .c (.clo f cap)=>K (.c (.clo f cap)) h
  | _=>False
 | .binOp o ty x y _ =>
  match zPn o (evD t x) (evD t y) with
  | some (id,b)=>zOg (T ty).k (h[id]?) b h K
  | none=>(PD o (T ty) (evD t x) (evD t y) λd=>K (.c (.p d)) h)∨zOs P o ty (evD t x) (evD t y) λd=>K (.c (.p d)) h
 | .unOp o _ x=>dun o (evD t x) λd=>K (.c (.p d)) h
 | .convert src dst x=>zDQ T src dst (evD t x) h K
 | .slice ty x lo hi none=>PS T ty h (evD t x) (bnd t lo) (bnd t hi) λd=>K d h
 | .slice ty x lo hi (some mx)=>zDT T ty (evD t x) (bnd t lo) (bnd t hi) (bnd t (some mx)) λd=>K d h
 | .fieldAddr s x f=>PH T s h (evD t x) f λd=>K d h
 | .field ty x f =>
  match (T ty).k,evD t x with
  | .struct fs,.agg cells =>
   match fs[f]? with
   | some (ft,off)=>zEe (T ft) cells off λd=>K d h
   | none=>False
  | _,_=>False
 | .indexAddr ty x i=>AW T ty h (evD t x) (evD t i) λd=>K d h
 | .index ty x i=>PJ T ty (evD t x) (evD t i) λd=>K d h
 | .extract x n =>
  match evD t x with
  | .tup xs =>
   match xs[n]? with
   | some e=>K e.toDV h
   | none=>False
  | _=>False
 | .makeFunc (.func f) first captured =>
  match first.toList,JT (captured.toList.map (evD t)) with
  | [],some cap=>K (.c (.clo f cap)) h
  | _,_=>False
 | .makeSlice ty l c=>zD1 T ty (evD t l) (evD t c) h K
 | .makeMap ty none=>PN (T ty).k h K
 | .lookup ty m x ok=>zDZ T (T ty).k h (evD t m) (evD t x) ok λd=>K d h
 | .mapUpdate ty m x v=>zD4 T (T ty).k h (evD t m) (evD t x) (evD t v) λh'=>K (.tup []) h'
 | .call c =>
  match c.callee with
  | .value f =>
   match evD t f with
   | .c (.clo g cap)=>aA P g (c.args.toList.map (evD t)++cap.map KV.toDV) h K
   | _=>False
  | .builtin .len =>
   match c.argTypes.toList,c.args.toList with
   | ty::_,[x]=>dlen (T ty) h (evD t x) λd=>K d h
   | _,_=>False
  | .builtin .append =>
   match c.argTypes.toList,c.args.toList with
   | [ty,tu],[x,y]=>AN T ty tu (evD t x) (evD t y) h K
   | _,_=>False
  | .builtin .min=>dmm true (c.args.toList.map (evD t)) λd=>K d h
  | .builtin .max=>dmm false (c.args.toList.map (evD t)) λd=>K d h
  | .builtin .clear =>
   match c.argTypes.toList,c.args.toList with
   | [ty],[x]=>PG T ty (evD t x) h K
   | _,_=>False
  | _=>False
 | _=>False
structure DS where
 n:Nat
 t:Fr
 h:aD
def DS.put(s:DS)(o:Option Tmp)(d:DV)(h':aD):DS :=
 match o with
 | some i=>if i<s.n then ⟨s.n,(i,d)::s.t,h'⟩ else ⟨s.n,s.t,h'⟩
 | none=>⟨s.n,s.t,h'⟩
def jI(P:Program)(T:Tab)(ops:Array Oper):List Oper->DS->(DS->Prop)->Prop
 | [],s,K=>K s
 | o::rest,s,K =>
  match o.guard with
  | none=>dop P T o.op s.t s.h λd h'=>jI P T ops rest (s.put o.dst d h') K
  | some (j,want) =>
   match ((ops[j]?).bind (·.dst)).map (λi=>look s.t i) with
   | some (.c (.p (.b v))) =>
    (v=want->dop P T o.op s.t s.h λd h'=>jI P T ops rest (s.put o.dst d h') K)/\(v≠want->jI P T ops rest (s.put o.dst (.tup []) s.h) K)
   | some (.tup [])=>jI P T ops rest (s.put o.dst (.tup []) s.h) K
   | _=>False
end Go.Dm
end
section
namespace Go.Dm
open Go
section types
variable {P:Program}{T:Tab}{w:World}
theorem bI(hT:bM P T){t:Nat}(h:(T t).size≠0):(T t).k≠.no:=by
 intro hk;have:=hT t;unfold zN8 at this;simp_all
theorem cC(hT:bM P T){t:Nat}(h:(T t).k≠.no):iR (P.underlying t) (T t).k/\∃i z,P.info? t=some i/\i.size=(T t).size/\i.bytes=(T t).bytes/\i.zero=some z/\(T t).zero.map gX=z.cells.toList.map some/\(T t).size=(T t).zero.length /\
   ((T t).k.agg=true->∃cs,z=.agg cs)/\((T t).k.agg=false->(T t).size=1/\z.oneCell'=true):=by
 have:=hT t;unfold zN8 at this;simp_all
theorem dX(hT:bM P T){t:Nat}(h:(T t).k≠.no):(sizeOf t).run P w=.ok (T t).size w:=by
 obtain⟨_,i,z,h1,h2,_⟩:=cC hT h;simp[sizeOf,typeInfo,h1,h2]
theorem vH(hT:bM P T){t:Nat}(h:(T t).k≠.no):(isAgg t).run P w=.ok (T t).k.agg w:=by
 obtain ⟨hd,_⟩:=cC hT h;unfold isAgg;cases hk:(T t).k<;>rw[hk] at hd<;>simp only[iR] at hd<;>(cases hu:P.underlying t with
  | none=>simp_all
  | some d=>rw[hu] at hd;cases d<;>simp only at hd<;>simp[run_underlying hu,TK.agg])
theorem bB(hT:bM P T){t e:Nat}(h:(T t).k=.slice e):P.underlying t=some (.slice e):=by
 obtain⟨hd,_⟩:=cC hT (t:=t) (by rw[h];simp);rw[h] at hd;cases hu:P.underlying t with
 | none=>rw[hu] at hd;exact hd.elim
 | some d=>rw[hu] at hd;cases d<;>simp only[iR] at hd<;>subst hd<;>rfl
theorem zNR(hT:bM P T){t e:Nat}(h:(T t).k=.ptr e):P.underlying t=some (.pointer e):=by
 obtain⟨h1,_⟩:=cC hT (t:=t) (by rw[h];intro e;cases e);unfold iR at h1;grind
theorem qL(hT:bM P T){t n e:Nat}(h:(T t).k=.array n e):P.underlying t=some (.array n e):=by
 obtain⟨hd,_⟩:=cC hT (t:=t) (by rw[h];simp);rw[h] at hd;cases hu:P.underlying t with
 | none=>rw[hu] at hd;exact hd.elim
 | some d=>rw[hu] at hd;cases d<;>simp only[iR] at hd<;>(obtain⟨rfl,rfl⟩:=hd;rfl)
theorem mF(hT:bM P T){t:Nat}(h:(T t).k=.str):P.underlying t=some .string:=by
 obtain⟨hd,_⟩:=cC hT (t:=t) (by rw[h];simp);rw[h] at hd;cases hu:P.underlying t with
 | none=>rw[hu] at hd;exact hd.elim
 | some d=>rw[hu] at hd;cases d<;>simp only[iR] at hd<;>rfl
theorem zW(hT:bM P T){t:Nat}(h:(T t).k=.bool):P.underlying t=some .bool:=by
 obtain⟨hd,_⟩:=cC hT (t:=t) (by rw[h];simp);rw[h] at hd;cases hu:P.underlying t with
 | none=>rw[hu] at hd;exact hd.elim
 | some d=>rw[hu] at hd;cases d<;>simp only[iR] at hd<;>rfl
theorem qM(hT:bM P T){t:Nat}{k:IntKind}(h:(T t).k=.int k):P.underlying t=some (.int k):=by
 obtain⟨hd,_⟩:=cC hT (t:=t) (by rw[h];simp);rw[h] at hd;cases hu:P.underlying t with
 | none=>rw[hu] at hd;exact hd.elim
 | some d=>rw[hu] at hd;cases d<;>simp only[iR] at hd<;>subst hd<;>rfl
theorem nI(hT:bM P T){t:Nat}{fs:List (Nat × Nat)}(h:(T t).k=.struct fs):∃fields,P.underlying t=some (.struct fields)/\fields.toList.map (λf=>(f.type,f.offset))=fs:=by
 obtain⟨hd,_⟩:=cC hT (t:=t) (by rw[h];simp);rw[h] at hd;cases hu:P.underlying t with
 | none=>rw[hu] at hd;exact hd.elim
 | some d=>rw[hu] at hd;cases d<;>simp only[iR] at hd<;>exact⟨_,rfl,hd⟩
section
variable {P:Program}{T:Tab}{w:World}
end
end types
variable {S:Nat->Prop}{X:Ctx}
theorem iU{w:World}{x:PV}{v:Value}(h:gX x=some v):cZ w S x v:=by
 cases x<;>simp only[gX,Option.some.injEq,reduceCtorEq,Option.ite_none_right_eq_some] at h<;>simp only[cZ]
 case o=>exact⟨h.2.symm,h.1⟩
 all_goals exact h.symm
theorem jX{w:World}:∀{xs:List PV} {vs:List Value},xs.map gX=vs.map some->bQ w S xs vs
 | [],[],_=>True.intro
 | x::xs,v::vs,h=>by
  simp only[List.map_cons,List.cons.injEq] at h;exact⟨iU h.1,jX h.2⟩
 | [],_::_,h=>by simp at h
 | _::_,[],h=>by simp at h
theorem zBr(X:Ctx)(v:Value):bD X (NY v) v:=by
 unfold NY;split<;>simp only[bD,cA,cZ,Value.oneCell',and_self]
theorem zMw{t:Fr}{a:Act}(h:∀i:Nat,bD X (look t i) (a.tmps.getD i undef))(x:Operand):bD X (evD t x) (a.eval x):=by
 cases x with
 | tmp i=>exact h i
 | const v=>exact zBr X v
 | global g=>exact⟨rfl,rfl⟩
 | func f=>exact⟨[],rfl,True.intro⟩
def Val(X:Ctx)(K:DV->aD->Prop)(r:Result Value):Prop:=∃v d X',r=.ok v X'.w/\HInv X'/\Step X X'/\bD X' d v/\K d X'.h
theorem Val.same{K:DV->aD->Prop}{r:Result Value}{v:Value}{d:DV}(hi:HInv X)(hr:r=.ok v X.w)(hd:bD X d v)(hk:K d X.h):Val X K r:=⟨v,d,X,hr,hi,Step.refl hi,hd,hk⟩
theorem yE(l:List UInt8):(⟨l.toArray⟩:ByteArray).toList=l:=by simp_all
theorem HE{xs:List CV}{vs:List Value}(h:bF X xs vs):bD X (.agg xs) (.agg vs.toArray):=⟨vs,rfl,h⟩
theorem tI{x:CV}{v:Value}(h:cA X x v):bD X (.c x) v:=h
theorem zR{x:PV}{v:Value}(h:cZ X.w X.S x v):bD X (.c (.p x)) v:=h
section ints
variable {P:Program}
variable {Q:PV->Prop}{k':IntKind}{X:Ctx}{K:DV->aD->Prop}{vx:Value}
theorem zDu(op:BinOp)(t:TypeId){k:IntKind}{a b:Int}{w:World}(hn:op≠.shl)(hn':op≠.shr)(h:zOy op k a b Q):
  ∃x v,Q x/\gX x=some v/\(binOp op t (.int k a) (.int k b)).run P w=.ok v w:=by
 cases op<;>simp only[zOy,ne_eq,reduceCtorEq] at h hn hn'
 case quo=>exact⟨_,_,h.2,rfl,by simp[binOp,Op.intDiv,h.1]⟩
 case rem=>exact⟨_,_,h.2,rfl,by simp[binOp,Op.intDiv,h.1]⟩
 case and=>exact⟨_,_,h,rfl,by simp only[binOp,ne_eq,not_true_eq_false,if_false];rfl⟩
 case or=>exact⟨_,_,h,rfl,by simp only[binOp,ne_eq,not_true_eq_false,if_false];rfl⟩
 case xor=>exact⟨_,_,h,rfl,by simp only[binOp,ne_eq,not_true_eq_false,if_false];rfl⟩
 case andNot=>exact⟨_,_,h,rfl,by simp only[binOp,ne_eq,not_true_eq_false,if_false];rfl⟩
 all_goals exact⟨_,_,h,rfl,by simp[binOp,Op.intArith,Op.intCmp]⟩
theorem binOp_shl(t:TypeId){k:IntKind}{a b:Int}{w:World}(hb:0<=b):
  (binOp .shl t (.int k a) (.int k' b)).run P w=.ok (.int k (k.wrap (a*2 ^ (min b.toNat k.bits)))) w:=by
 have hb':¬ b<0:=by omega
 simp[binOp,Op.shift,hb']
theorem binOp_shr(t:TypeId){k:IntKind}{a b:Int}{w:World}(hb:0<=b):
  (binOp .shr t (.int k a) (.int k' b)).run P w=.ok (.int k (a.fdiv (2 ^ (min b.toNat k.bits)))) w:=by
 have hb':¬ b<0:=by omega
 simp[binOp,Op.shift,hb']
theorem zDv(op:BinOp)(t:TypeId){a b:List UInt8}{w:World}(h:zOK op a b Q):
  ∃x v,Q x/\gX x=some v/\(binOp op t (.string ⟨a.toArray⟩) (.string ⟨b.toArray⟩)).run P w=.ok v w:=by
 cases op<;>simp only[zOK] at h
 case add =>
  refine⟨_,_,h.2,rfl,?_⟩;have h2:(⟨a.toArray⟩:ByteArray)++⟨b.toArray⟩=⟨(a++b).toArray⟩:=by apply ByteArray.ext;simp
  simp[binOp,Op.stringOp,ByteArray.size,h2,IntKind.max,IntKind.signed,IntKind.bits];omega
 all_goals exact⟨_,_,h,rfl,by simp only[binOp,Op.stringOp,yE,cD];rfl⟩
theorem zDt(op:BinOp)(t:TypeId){a b:Nat}{w:World}(h:zOw op a b Q):
  ∃x v,Q x/\gX x=some v/\(binOp op t (.float .f64 a) (.float .f64 b)).run P w=.ok v w:=by
 cases op<;>simp only[zOw] at h
 all_goals exact⟨_,_,h,rfl,by simp[binOp,Op.floatCmp,VQ]⟩
theorem run_equal_bool{t:TypeId}(h:P.underlying t=some .bool)(a b:Bool)(w:World):(Op.equal t (.bool a) (.bool b)).run P w=.ok (a==b) w:=by
 have key:∀d:Nat,(Op.equalIn (d+1) t (.bool a) (.bool b)).run P w=.ok (a==b) w:=λd=>by
  simp only[Op.equalIn];simp[run_underlying h]
 exact key 9999
theorem vG{t e:TypeId}(h:P.underlying t=some (.slice e))(a:Option Addr)(n c:Nat)(w:World):(Op.equal t (.slice a n c) (.slice none 0 0)).run P w=.ok a.isNone w:=by
 have key:∀d:Nat,(Op.equalIn (d+1) t (.slice a n c) (.slice none 0 0)).run P w=.ok a.isNone w:=λd=>by
  simp only[Op.equalIn];cases a<;>simp[run_underlying h]
 exact key 9999
theorem MP{t e:TypeId}(h:P.underlying t=some (.pointer e))(a:Addr)(w:World):(Op.equal t (.pointer (some a)) (.pointer none)).run P w=.ok false w:=by
 have key:∀d:Nat,(Op.equalIn (d+1) t (.pointer (some a)) (.pointer none)).run P w=.ok false w:=λd=>by
  simp only[Op.equalIn];simp[run_underlying h]
 exact key 9999
theorem LN{x:PV}{v:Value}{K:Bool->Prop}(hr:cZ X.w X.S x v)(h:zF9 x K):∃a n c,v=.slice a n c/\K a.isNone:=by
 unfold zF9 at h;split at h
 .simp only[cZ] at hr;exact⟨_,_,_,hr,h⟩
 .simp only[cZ] at hr;grind
 .simp only[cZ] at hr;obtain⟨a,c,rfl,_,_⟩:=hr;cases a
  .simp_all
  .simp_all
 .simp_all
theorem zIh{T:Tab}(hT:bM P T)(hi:HInv X)(op:BinOp)(t:TypeId){x y:DV}{vy:Value}(hx:bD X x vx)(hy:bD X y vy)
 (h:PD op (T t) x y λd=>K (.c (.p d)) X.h):Val X K ((binOp op t vx vy).run P X.w):=by
 have fin:∀{r:Result Value},(∃z v,K (.c (.p z)) X.h/\gX z=some v/\r=.ok v X.w)->Val X K r:=by
  rintro r ⟨z,v,h1,h2,h3⟩;exact Val.same hi h3 (zR (iU h2)) h1
 unfold PD at h;split at h
 .rename_i k a k' b;subst hx;subst hy;split at h
  .exact fin ⟨_,_,h.2,rfl,binOp_shl t h.1⟩
  .exact fin ⟨_,_,h.2,rfl,binOp_shr t h.1⟩
  .rename_i h1 h2;obtain⟨rfl,h3⟩:=h;exact fin (zDu op t (λe=>h1 e) (λe=>h2 e) h3)
 .simp only[bD,cA,cZ] at hx hy;subst hx;subst hy;exact fin (zDv op t h)
 .simp only[bD,cA,cZ] at hx hy;subst hx;subst hy;exact fin (zDt op t h)
 .simp only[bD,cA,cZ] at hx hy;subst hx;subst hy;split at h
  .rename_i hk;exact fin ⟨_,_,h,rfl,by simp only[binOp,Sem.run_bind,run_equal_bool (zW hT hk)];rfl⟩
  .rename_i hk;exact fin ⟨_,_,h,rfl,by simp only[binOp,Sem.run_bind,run_equal_bool (zW hT hk)];rfl⟩
  .exact h.elim
 .simp only[bD,cA] at hx hy;subst hy;split at h
  .rename_i e hk;obtain⟨a,n,c,rfl,h⟩:=LN hx h;exact fin ⟨_,_,h,rfl,by simp only[binOp,Sem.run_bind,vG (bB hT hk)];rfl⟩
  .rename_i e hk;obtain⟨a,n,c,rfl,h⟩:=LN hx h;exact fin ⟨_,_,h,rfl,by simp only[binOp,Sem.run_bind,vG (bB hT hk)];rfl⟩
  .exact h.elim
 .simp_all
theorem zMn(hi:HInv X)(op:UnOp){x:DV}(hx:bD X x vx)
 (h:dun op x λd=>K (.c (.p d)) X.h):Val X K ((Op.unary op vx).run P X.w):=by
 have fin:∀{r:Result Value},(∃z v,K (.c (.p z)) X.h/\gX z=some v/\r=.ok v X.w)->Val X K r:=by
  rintro r ⟨z,v,h1,h2,h3⟩;exact Val.same hi h3 (zR (iU h2)) h1
 unfold dun at h;split at h
 .simp only[bD,cA,cZ] at hx;subst hx;exact fin ⟨_,_,h,rfl,rfl⟩
 .simp only[bD,cA,cZ] at hx;subst hx;exact fin ⟨_,_,h,rfl,by simp[Op.unary,Op.intArith]⟩
 .simp only[bD,cA,cZ] at hx;subst hx;exact fin ⟨_,_,h,rfl,by simp only[Op.unary];rfl⟩
 .simp_all
end ints
theorem iE(bl o n:Nat):(⟨bl,o,none⟩:Addr).add n=⟨bl,o+n,none⟩:=by
 unfold Addr.add;split
 .simp_all
 .rfl
theorem gT.cells{w:World}{S:Nat->Prop}{bl off:Nat}{cs:List PV}(h:gT w S bl off cs){P:Program}:∃vs:List Value,bQ w S cs vs/\(loadCells ⟨bl,off,none⟩ cs.length).run P w=.ok vs.toArray w:=by
 obtain⟨vs,h1,h2⟩:=h.vals;refine⟨vs,h1,?_⟩;rw[h1.length];exact run_loadCells_list (P:=P) w ⟨bl,off,none⟩ vs λj v hj=>by rw[iE];exact h2 j v hj
theorem cU.cells{X:Ctx}{bl:Nat}:∀{cs:List CV} {off:Nat},cU X bl off cs->∃vs:List Value,bF X cs vs/\∀(j:Nat) (v:Value),vs[j]?=some v->X.w.cell? ⟨bl,off+j,none⟩=some v
 | [],_,_=>⟨[],True.intro,λj v h=>by simp at h⟩
 | c::cs,off,h=>by
  obtain⟨⟨v,hv,hr⟩,ht⟩:=h;obtain⟨vs,h1,h2⟩:=cU.cells ht;refine⟨v::vs,⟨hr,h1⟩,λj u hj=>?_⟩;grind
theorem bF.drop{X:Ctx}:∀{xs:List CV} {vs:List Value} (n:Nat),bF X xs vs->bF X (xs.drop n) (vs.drop n)
 | _,_,0,h=>by simpa using h
 | [],[],n+1,_=>by simp[bF]
 | _::_,_::_,n+1,h=>by simpa using bF.drop n h.2
 | [],_::_,_+1,h=>h.elim
 | _::_,[],_+1,h=>h.elim
theorem bF.take{X:Ctx}:∀{xs:List CV} {vs:List Value} (n:Nat),bF X xs vs->bF X (xs.take n) (vs.take n)
 | _,_,0,_=>by simp[bF]
 | [],[],n+1,_=>by simp[bF]
 | _::_,_::_,n+1,h=>by simpa using ⟨h.1,bF.take n h.2⟩
 | [],_::_,_+1,h=>h.elim
 | _::_,[],_+1,h=>h.elim
section loads
variable {P:Program}{T:Tab}{X:Ctx}{K:DV->aD->Prop}
theorem kX(hT:bM P T){t:Nat}(hs:(T t).size≠0)(hk:(T t).k.agg=false){bl off:Nat}{v:Value}(hv:X.w.cell? ⟨bl,off,none⟩=some v):
  (loadVar t ⟨bl,off,none⟩).run P X.w=.ok v X.w:=by
 simp[loadVar,vH hT (bI hT hs),hk,hv]
theorem kW(hT:bM P T){t:Nat}(hs:(T t).size≠0)(hk:(T t).k.agg=true){bl off:Nat}{vs:List Value}(hl:vs.length=(T t).size)
  (hv:∀(j:Nat) (v:Value),vs[j]?=some v->X.w.cell? ⟨bl,off+j,none⟩=some v):
  (loadVar t ⟨bl,off,none⟩).run P X.w=.ok (.agg vs.toArray) X.w:=by
 have:=run_loadCells_list (P:=P) X.w ⟨bl,off,none⟩ vs λj v hj=>by rw[iE];exact hv j v hj
 rw[hl] at this;simp[loadVar,vH hT (bI hT hs),hk,dX hT (bI hT hs),this]
def Ld(X:Ctx)(Q:DV->Prop)(r:Result Value):Prop:=∃v d,r=.ok v X.w/\bD X d v/\Q d
theorem Ld.mk{X:Ctx}{Q:DV->Prop}{r:Result Value}{v:Value}{d:DV}(hr:r=.ok v X.w)(hd:bD X d v)(hq:Q d):Ld X Q r:=⟨v,d,hr,hd,hq⟩
theorem PM(hT:bM P T)(hi:HInv X){t:Nat}(hs:(T t).size≠0){a:DV}{va:Value}{Q:DV->Prop}(ha:bD X a va)(h:vY (T t) X.h a Q):Ld X Q ((Instr.loadAt t va).run P X.w):=by
 unfold vY at h;split at h
 .rename_i id off;split at h
  .rename_i cells he;obtain⟨_,_,h3⟩:=ha;obtain⟨g,hg,rfl⟩:=h3 _ he;have hb:=hi.blk id _ he;obtain⟨g',arr,el,fz,h1,h2,h4,h5,h6⟩:=hb;rw[hg] at h1;cases h1;split at h
   .rename_i hk;obtain⟨vs,h7,h8⟩:=h6.cells;have hl:=h7.length;have hr:=(h7.drop off).take (T t).size;refine Ld.mk (v:=.agg ((vs.drop off).take (T t).size).toArray) ?_ (HE hr) h.2;refine kW hT hs hk (by simp;omega) λj v hj=>?_;grind
   .rename_i hk;split at h
    .rename_i c hc;obtain⟨v,h7,h8⟩:=h6.at_ hc;refine Ld.mk (v:=v) ?_ (tI h8) h;exact kX hT hs (by simpa using hk) h7
    .exact h.elim
  .exact h.elim
 .rename_i id i j;split at h
  .rename_i k es ro he;obtain⟨_,_,h3⟩:=ha;obtain⟨g,hg,rfl⟩:=h3 _ _ _ he;have hb:=hi.blk id _ he;rcases hb with hb|⟨g',arr,el,fz,h1,h2,h4,h5,h6⟩
   .simp_all
   rw[hg] at h1;cases h1;have hel:∀hlt:i<es.length,es[i]?=some (es.getD i []):=λhlt=>by rw[List.getD_eq_getElem?_getD,List.getElem?_eq_getElem hlt];rfl
   split at h
   .rename_i hk;obtain⟨h7,h8,h9⟩:=h;obtain⟨h10,h11⟩:=h6.at_ (hel h7);obtain⟨vs,h12,h13⟩:=((h11.drop j).take (T t).size).vals;have hl:=h12.length;refine Ld.mk (v:=.agg vs.toArray) ?_ (HE (bF.of_ps h12)) h9;exact kW hT hs hk (by rw[<- hl];simp only[List.length_take,List.length_drop];omega) h13
   .rename_i hk;obtain⟨h7,h8,h9⟩:=h;obtain⟨h10,h11⟩:=h6.at_ (hel h7);have hj:(es.getD i [])[j]?=some ((es.getD i []).getD j .nil):=by rw[List.getD_eq_getElem?_getD (l:=es.getD i []),List.getElem?_eq_getElem (by omega)];rfl
    obtain⟨v,h12,h13⟩:=h11.at_ hj;refine Ld.mk (v:=v) ?_ (zR h13) h9;exact kX hT hs (by simpa using hk) h12
  .exact h.elim
 .rename_i cs;obtain⟨bl,off,rfl,hS,h1⟩:=ha;split at h
  .rename_i hk;obtain⟨vs,h12,h13⟩:=(h1.take (T t).size).vals;have hl:=h12.length;refine Ld.mk (v:=.agg vs.toArray) ?_ (HE (bF.of_ps h12)) h.2;exact kW hT hs hk (by rw[<- hl];simp only[List.length_take];omega) h13
  .rename_i hk;split at h
   .rename_i c cs';obtain⟨⟨v,h2,h3⟩,_⟩:=h1;refine Ld.mk (v:=v) ?_ (zR h3) h;exact kX hT hs (by simpa using hk) h2
   .exact h.elim
 .simp_all
theorem zDY(hT:bM P T)(hi:HInv X){t:Nat}(hs:(T t).size≠0){a:DV}{va:Value}(ha:bD X a va)(h:vY (T t) X.h a λd=>K d X.h):Val X K ((Instr.loadAt t va).run P X.w):=by
 obtain⟨v,d,h1,h2,h3⟩:=PM hT hi hs ha h;exact Val.same hi h1 h2 h3
end loads
end Go.Dm
end
section
namespace Go.Dm
open Go
theorem jU(w:World)(bl off:Nat)(v:Value)(b:Nat):(w.setCell ⟨bl,off,none⟩ v).heap[b]?=if b=bl then (w.heap[b]?).map (fun|.cells c e f=>.cells (c.setIfInBounds off v) e f|o=>o) else w.heap[b]? := by
 simp only[World.setCell,Array.getElem?_modify];grind
theorem gE{P:Program}{bl off:Nat}:∀(vs:List Value) (i:Nat) (w:World) {arr:Array Value} {el:TypeId} {fz:Nat × Nat},w.heap[bl]?=some (.cells arr el fz)->off+i+vs.length<=arr.size ->
  (∀o,off+i<=o->o<off+i+vs.length->¬ (fz.1<=o/\o<fz.2))->(∀v∈vs,v.oneCell'=true)->∃w',(storeCells ⟨bl,off,none⟩ vs i).run P w=.ok () w'/\Wrote w w' bl (off+i) vs
 | [],i,w,arr,el,fz,ha,_,_,_=>⟨w,by simp[storeCells],rfl,rfl,tM.rfl',rfl,λ_ _=>rfl,arr,el,fz,arr,ha,ha,rfl,λj=>by rw[if_neg (by simp only[List.length_nil];omega)]⟩
 | v::vs,i,w,arr,el,fz,ha,hsz,hfr,h1=>by
  simp only[List.length_cons] at hsz hfr;have hc:w.cell? ⟨bl,off+i,none⟩=some arr[off+i]:=by
   simp only[World.cell?,ha,Option.isSome_none,Bool.false_eq_true,if_false];simp_all
  have hf:w.frozen? ⟨bl,off+i,none⟩=false:=by
   have:=hfr (off+i) (Nat.le_refl _) (by omega);simp only[World.frozen?,ha];simp_all
  have hb:(w.setCell ⟨bl,off+i,none⟩ v).heap[bl]?=some (.cells (arr.setIfInBounds (off+i) v) el fz):=by
   rw[jU,if_pos rfl,ha];rfl
  obtain⟨w',h2,h3⟩:=gE (P:=P) (bl:=bl) (off:=off) vs (i+1) (w.setCell ⟨bl,off+i,none⟩ v) hb (by simp;omega) (λo h4 h5=>hfr o (by omega) (by omega)) λu hu=>h1 u (by simp[hu]);refine⟨w',?_,?_⟩
  .simp only[storeCells,Sem.run_bind,iE];rw[run_store P w _ v _ (h1 v (by simp)),hc];simp_all
  .obtain⟨arr1,el1,fz1,arr',h4,h5,h6,h7⟩:=h3.here;rw[hb] at h4;cases h4;refine⟨h3.os,h3.tape,h3.output,h3.size.trans (by simp),λb hne=>(h3.other b hne).trans (by rw[jU,if_neg hne]),arr,el,fz,arr',ha,h5,by simpa using h6,λj=>?_⟩
   grind
section stores
variable {P:Program}{T:Tab}{X:Ctx}
variable {cells:List CV}{vx vi:Value}{i:DV}
theorem qS{x:DV}{v:Value}{ys:List CV}(h:bD X x v)(hc:cellsD x=some ys):bF X ys v.cells.toList:=by
 cases x<;>simp only[cellsD,Option.some.injEq,reduceCtorEq] at hc<;>subst hc
 case c y =>
  have h1:=pZ (show cA X y v from h)
  have:v.cells = #[v]:=by cases v<;>simp_all[Value.cells,Value.oneCell']
  rw[this];exact⟨h,True.intro⟩
 case agg ys=>obtain⟨vs,rfl,h⟩:=h;exact h
def Sto(X:Ctx)(K:aD->Prop)(r:Result Unit):Prop:=∃X',r=.ok () X'.w/\HInv X'/\Step X X'/\K X'.h
theorem eC.box_{id:Nat}(h:eC X id (.box cells)):∃g arr el fz,X.G id=some g/\X.w.heap[g.1]?=some (.cells arr el fz)/\g.2+cells.length<=arr.size/\ZQ fz g.2 arr.size/\cU X g.1 g.2 cells:=h
theorem xV(hT:bM P T){t:Nat}(hs:(T t).size≠0){a:Addr}{v:Value}(hl:v.cells.toList.length=(T t).size)(w:World):(storeVar t a v).run P w=(storeCells a v.cells.toList).run P w:=by
 have:v.cells.size=(T t).size:=by simpa using hl
 simp[storeVar,dX hT (bI hT hs),this]
theorem zBD(hT:bM P T)(hi:HInv X){t:Nat}{a x:DV}{va:Value}{K:aD->Prop}(ha:bD X a va)(hx:bD X x vx)(h:PT (T t) X.h a x K):Sto X K ((Instr.storeAt t va vx).run P X.w):=by
 unfold PT at h;split at h
 .exact h.elim
 rename_i ys hys;obtain⟨hs,hlen,h⟩:=h;have hr:=qS hx hys;have hrl:=hr.length;split at h
 .rename_i id off;split at h
  .rename_i cells he;obtain⟨hle,hk⟩:=h;obtain⟨_,_,h3⟩:=ha;obtain⟨g,hg,rfl⟩:=h3 _ he;obtain⟨g',arr,el,fz,h1,h2,h4,h5,h6⟩:=(hi.blk id _ he).box_;rw[hg] at h1;cases h1;obtain⟨w',h7,h8⟩:=gE (P:=P) (bl:=g.1) (off:=g.2+off) vx.cells.toList 0 X.w h2 (by omega) (λo h9 h10=>h5.at_ o (by omega) (by omega)) hr.oneCell;obtain⟨h9,h10⟩:=zDA hi he hg hle hr (by simpa using h8);refine⟨_,?_,h10,h9,hk⟩;simp only[Instr.storeAt,Instr.sureAddr,Sem.run_bind,Sem.run_pure,Result.andThen_ok];rw[xV hT hs (by rw[<- hrl,hlen])];exact h7
  .exact h.elim
 .rename_i id i j;split at h
  .rename_i k es xs he hp;obtain⟨hlt,hle,hk⟩:=h;obtain⟨X1,hw,hh,hG,hst,hi1,hfx⟩:=jD (BM ys) hi;rw[<- hh] at he hk;have hr1:bQ X1.w X1.S xs vx.cells.toList:=CP hi hst hw hr hp hfx;have hrl1:=hr1.length;have ha1:bD X1 (.c (.aptr id i j)) va:=bD.step hst ha;obtain⟨_,_,h3⟩:=ha1;obtain⟨g,hg,rfl⟩:=h3 _ _ _ he;have hb:=hi1.blk id _ he;rcases hb with hb|⟨g',arr,el,fz,h1,h2,h4,h5,h6⟩
   .simp_all
   rw[hg] at h1;cases h1;have hel:es[i]?=some (es.getD i []):=by rw[List.getD_eq_getElem?_getD,List.getElem?_eq_getElem hlt];rfl
   have hek:=(h6.at_ hel).1;have hmul:=gP (k:=k) hlt;obtain⟨w',h7,h8⟩:=gE (P:=P) (bl:=g.1) (off:=g.2+i*k+j) vx.cells.toList 0 X1.w h2 (by omega) (λo h9 h10=>h5.at_ o (by omega) (by omega)) hr1.oneCell;obtain⟨h9,h10⟩:=zDo hi1 he hg hel (by rw[hek];exact hle) hr1 (by simpa using h8);refine⟨_,?_,h10,hst.trans hi1 h9,hk⟩;simp only[Instr.storeAt,Instr.sureAddr,Sem.run_bind,Sem.run_pure,Result.andThen_ok];rw[xV hT hs (by rw[<- hrl,hlen]),<- hw];exact h7
  .exact h.elim
 .simp_all
variable {K:DV->aD->Prop}
theorem FA(hT:bM P T){bl off:Nat}{f:Field}{w:World}(hs:(T f.type).size≠0):(fieldPlace ⟨bl,off,none⟩ f).run P w=.ok ⟨bl,off+f.offset,none⟩ w:=by
 unfold fieldPlace;simp only[Sem.run_bind,dX hT (bI hT hs),Result.andThen_ok,Sem.run_ite,if_neg hs,Sem.run_pure,iE]
theorem zBx(hT:bM P T)(hi:HInv X){s f:Nat}{x:DV}(hx:bD X x vx)(h:PH T s X.h x f λd=>K d X.h):Val X K ((Instr.fieldAt s vx f).run P X.w):=by
 unfold PH at h;split at h
 .rename_i fs hk;obtain⟨fields,hu,hf⟩:=nI hT hk;split at h
  .rename_i ft off hfo;obtain⟨hsz,h⟩:=h;have hfo':∃fd,fields[f]?=some fd/\fd.type=ft/\fd.offset=off:=by
    grind
   obtain ⟨fd,hfd,rfl,rfl⟩:=hfo';have run:∀bl o,(Instr.fieldAt s (.pointer (some ⟨bl,o,none⟩)) f).run P X.w=.ok (.pointer (some ⟨bl,o+fd.offset,none⟩)) X.w:=λbl o=>by
    simp[Instr.fieldAt,run_underlying hu,hfd,Instr.sureAddr,FA hT hsz]
   split at h
   .rename_i id o;split at h
    .rename_i cells he;obtain⟨h1,h2,h3⟩:=hx;obtain⟨g,hg,rfl⟩:=h3 _ he;refine Val.same hi (run _ _) (tI (x:=.ptr id (o+fd.offset)) ⟨h1,rfl,λcs hc=>⟨g,hg,by rw[Nat.add_assoc]⟩⟩) h
    .exact h.elim
   .rename_i id i j;split at h
    .rename_i k es ro he;obtain⟨h1,h2,h3⟩:=hx;obtain⟨g,hg,rfl⟩:=h3 _ _ _ he;refine Val.same hi (run _ _) (tI (x:=.aptr id i (j+fd.offset)) ⟨h1,rfl,λk' es' ro' hc=>⟨g,hg,?_⟩⟩) h;simp_all
    .exact h.elim
   .rename_i cs;obtain⟨bl,o,rfl,hS,h1⟩:=hx;exact Val.same hi (run _ _) (tI (x:=.eptr (cs.drop fd.offset)) ⟨bl,o+fd.offset,rfl,hS,h1.drop _⟩) h
   .exact h.elim
  .exact h.elim
 .simp_all
theorem PO(hT:bM P T){t:Nat}{vs:List Value}{off:Nat}{Q:DV->Prop}(hr:bF X cells vs)(h:zEe (T t) cells off Q):∃d v,(part t vs.toArray off).run P X.w=.ok v X.w/\bD X d v/\Q d:=by
 obtain⟨hs,h⟩:=h;split at h
 .rename_i hk;refine⟨_,.agg ((vs.drop off).take (T t).size).toArray,?_,HE ((hr.drop off).take (T t).size),h.2⟩;simp[part,vH hT (bI hT hs),hk,dX hT (bI hT hs)]
 .rename_i hk;split at h
  .rename_i c hc;obtain⟨v,h1,h2⟩:=hr.at_ hc;refine⟨_,v,?_,tI h2,h⟩;simp[part,vH hT (bI hT hs),hk,h1]
  .simp_all
theorem WT(hT:bM P T)(hi:HInv X)(gd:Gnd P X){t:Nat}{x:DV}(hx:bD X x vx)(hv:bD X i vi)(h:AW T t X.h x i λd=>K d X.h):Val X K ((Instr.indexAt t vx vi).run P X.w):=by
 unfold AW at h;split at h
 .rename_i e k es kk n hk;obtain⟨hs,hsz,h0,hn,h⟩:=h;subst hv;obtain⟨a,c,rfl,hc,hL⟩:=hx;have hlt:n.toNat<es.length:=by omega
  rcases hL with rfl|⟨bl,off,rfl,hS,hL⟩
  .simp at hlt
  have hel:es[n.toNat]?=some (es.getD n.toNat []):=by rw[List.getD_eq_getElem?_getD,List.getElem?_eq_getElem hlt];rfl
  refine Val.same hi (v:=.pointer (some ⟨bl,off+n.toNat*k,none⟩)) ?_ (tI (x:=.eptr _) ⟨bl,_,rfl,hS,(hL.at_ hel).2⟩) h;simp[Instr.indexAt,asIntOf,run_underlying (bB hT hk),h0,hn,dX hT (bI hT hs),hsz,iE]
 .rename_i e id off len kk n hk;split at h
  .rename_i k es ro he;obtain⟨hs,hsz,h0,hn,h⟩:=h;subst hv;obtain⟨h1,h2,h3⟩:=hx;obtain⟨h4,h5⟩:=h3 _ _ _ he;cases hG:X.G id with
   | none =>
    have hb:=hi.blk id _ he;simp only[eC] at hb;grind
   | some g =>
    rw[hG] at h5;obtain⟨cap,o,arr,el,fz,h6,rfl,h7,h8,h9,h10⟩:=h5;refine Val.same hi (v:=.pointer (some ⟨g.1,g.2+off*k+n.toNat*k,none⟩)) ?_ (tI (x:=.aptr id (off+n.toNat) 0) ⟨h1,rfl,λk' es' ro' hc=>⟨g,hG,?_⟩⟩) h
    .simp[Instr.indexAt,asIntOf,run_underlying (bB hT hk),h0,hn,dX hT (bI hT hs),hsz,iE]
    .grind
  .exact h.elim
 .rename_i e id len kk n hk;split at h
  .rename_i cells he;obtain⟨hsz,h0,hn,h⟩:=h;subst hv;obtain⟨h1,h2,h3⟩:=hx;obtain⟨g,hg,rfl⟩:=h3 _ he;have hs:(T e).size≠0:=by omega
   refine Val.same hi (v:=.pointer (some ⟨g.1,g.2+n.toNat,none⟩)) ?_ (tI (x:=.ptr id n.toNat) ⟨h1,rfl,λcs hc=>⟨g,hg,rfl⟩⟩) h;simp[Instr.indexAt,asIntOf,run_underlying (bB hT hk),h0,hn,dX hT (bI hT hs),hsz,iE]
  .exact h.elim
 .rename_i len e id off kk n hk;split at h
  .rename_i cells he;obtain⟨hs,h2l,h0,hn,h⟩:=h;subst hv;obtain⟨h1,h2,h3⟩:=hx;obtain⟨g,hg,rfl⟩:=h3 _ he;refine Val.same hi (v:=.pointer (some ⟨g.1,g.2+off+n.toNat*(T e).size,none⟩)) ?_ (tI (x:=.ptr id (off+n.toNat*(T e).size)) ⟨h1,rfl,λcs hc=>⟨g,hg,by rw[Nat.add_assoc]⟩⟩) h
   simp[Instr.indexAt,asIntOf,run_underlying (qL hT hk),h0,hn,dX hT (bI hT hs),Instr.sureAddr,iE]
  .exact h.elim
 .rename_i len e g kk n hk;obtain⟨hsz,h0,hn,hlt,h⟩:=h;subst hv;obtain⟨rfl,_⟩:=hx;obtain⟨W0,⟨_,hsd⟩,hkp⟩:=gd;have hj:n.toNat<(said g).length:=by omega
  have hc:=hsd g n.toNat ((said g).getD n.toNat (.i 0)) (by rw[List.getD_eq_getElem?_getD,List.getElem?_eq_getElem hj];rfl);have hg:g<W0.heap.size:=by
   rcases Nat.lt_or_ge g W0.heap.size with h|h
   .exact h
   .rw[World.cell?] at hc;simp_all
  have hc2:X.w.cell? ⟨g,n.toNat,none⟩=some ((said g).getD n.toNat (.i 0)).val:=by rw[Kept.cell hkp hg];exact hc
  have hs:(T e).size≠0:=by omega
  refine Val.same hi (v:=.pointer (some ⟨g,n.toNat,none⟩)) ?_ (tI (x:=.eptr _) ⟨g,_,rfl,(hkp g hg).1,?_⟩) h
  .simp[Instr.indexAt,asIntOf,run_underlying (qL hT hk),h0,hn,dX hT (bI hT hs),hsz,Instr.sureAddr,iE]
  .simp only[gT];exact⟨⟨_,hc2,SV.rel _ _ _⟩,trivial⟩
 .simp_all
theorem zBy(hT:bM P T)(hi:HInv X){t:Nat}{x:DV}(hx:bD X x vx)(hv:bD X i vi)(h:PJ T t x i λd=>K d X.h):Val X K ((Instr.index t vx vi).run P X.w):=by
 unfold PJ at h;split at h
 .rename_i l kk n hk;obtain⟨h0,hn,h⟩:=h;subst hv;subst hx;have hlt:n.toNat<l.length:=by omega
  refine Val.same hi (v:=.int .u8 (l.getD n.toNat 0).toNat) ?_ (zR (x:=.i .u8 _) rfl) h;have:(⟨l.toArray⟩:ByteArray)[n.toNat]?=some (l.getD n.toNat 0):=by
   rw[getElem?_pos _ _ (by simpa[ByteArray.size] using hlt)];rw[List.getD_eq_getElem?_getD,List.getElem?_eq_getElem hlt];rfl
  simp[Instr.index,asIntOf,run_underlying (mF hT hk),h0,this]
 .rename_i len e cells kk n hk;obtain⟨hs,h0,hn,h⟩:=h;subst hv;obtain⟨vs,rfl,hr⟩:=hx;obtain⟨d,v,h1,h2,h3⟩:=PO hT hr h;refine Val.same hi (v:=v) ?_ h2 h3;simp[Instr.index,asIntOf,run_underlying (qL hT hk),h0,hn,dX hT (bI hT hs),h1]
 .simp_all
end stores
end Go.Dm
end
section
namespace Go.Dm
open Go
section cuts
variable {P:Program}{T:Tab}{X:Ctx}{K:DV->aD->Prop}
variable {ty:Nat}{vx:Value}{hi':Option Operand}
theorem kF{t:Fr}{a:Act}(hρ:∀x,bD X (evD t x) (a.eval x)){o:Option Operand}{d:Int}{Q:Int->Prop}(h:bnd t o d Q):
  ∃n,Q n/\((o.map a.eval=none/\n=d)∨∃k,o.map a.eval=some (.int k n)):=by
 unfold bnd at h;split at h
 .simp_all
 .rename_i x;split at h
  .rename_i k n he;have:=hρ x;rw[he] at this;simp only[bD,cA,cZ] at this;simp_all
  .simp_all
theorem run_sliceBound{k:IntKind}{n:Int}{y:Nat}{c:BoundsCode}{w:World}(h0:0<=n)(h1:n<=y):(Instr.sliceBound (.int k n) y c).run P w=.ok n.toNat w:=by
 simp[Instr.sliceBound,asIntOf,h0,h1]
theorem fO{b:Bool}{len cap:Nat}{lo hi:Option Value}{x y:Int}{w:World}(hx:(lo=none/\x=0)∨∃k,lo=some (.int k x))(hy:(hi=none/\y=len)∨∃k,hi=some (.int k y))
 (h0:0<=x)(h1:x<=y)(h2:y<=len)(h3:len<=cap):(Instr.sliceBounds b len cap lo hi none).run P w=.ok (x.toNat,y.toNat,cap) w:=by
 have h4:y<=cap:=by omega
 rcases hx with⟨rfl,rfl⟩|⟨k,rfl⟩<;>rcases hy with⟨rfl,rfl⟩|⟨k',rfl⟩
 .simp[Instr.sliceBounds]
 .simp[Instr.sliceBounds,run_sliceBound (P:=P) (show (0:Int)<=y by omega) h4]
 .have:(x:Int)<=((len:Nat):Int):=h1;simp[Instr.sliceBounds,run_sliceBound (P:=P) h0 this]
 .have:(x:Int)<=((y.toNat:Nat):Int):=by omega
  simp[Instr.sliceBounds,run_sliceBound (P:=P) (show (0:Int)<=y by omega) h4,run_sliceBound (P:=P) h0 this]
theorem MQ{b:Bool}{len cap:Nat}{lo hi mx:Option Value}{k1 k2:IntKind}{y:Int}{w:World}(hx:lo=none∨∃k,lo=some (.int k 0))(hy:hi=some (.int k1 y))(hm:mx=some (.int k2 y))
 (h0:0<=y)(h2:y<=cap):(Instr.sliceBounds b len cap lo hi mx).run P w=.ok (0,y.toNat,y.toNat) w:=by
 have h4:y<=((y.toNat:Nat):Int):=by omega
 have h5:(0:Int)<=((y.toNat:Nat):Int):=by omega
 subst hy;subst hm;rcases hx with rfl|⟨k,rfl⟩
 .simp[Instr.sliceBounds,run_sliceBound (P:=P) h0 h2,run_sliceBound (P:=P) h0 h4]
 .simp[Instr.sliceBounds,run_sliceBound (P:=P) h0 h2,run_sliceBound (P:=P) h0 h4,run_sliceBound (P:=P) (Int.le_refl 0) h5]
theorem zDU(hT:bM P T)(hi:HInv X){t:Fr}{a:Act}(hρ:∀x,bD X (evD t x) (a.eval x)){x:DV}{lo:Option Operand}{mx:Operand}(hx:bD X x vx)
 (h:zDT T ty x (bnd t lo) (bnd t hi') (bnd t (some mx)) λd=>K d X.h):Val X K ((Instr.sliceAt ty vx (lo.map a.eval) (hi'.map a.eval) (some (a.eval mx))).run P X.w):=by
 unfold zDT at h;split at h
 .rename_i e k es hk;obtain⟨hs,hsz,h⟩:=h;obtain⟨n,h,hn⟩:=kF hρ h;obtain⟨m,h,hm⟩:=kF hρ h;obtain⟨q,⟨rfl,rfl,h1,h2,h⟩,hq⟩:=kF hρ h;obtain⟨ad,c,rfl,hc,hL⟩:=hx;have hm:∃k,hi'.map a.eval=some (.int k m):=by
   grind
  have hq:∃k,some (a.eval mx)=some (.int k m):=by
   simp_all
  obtain⟨k1,hm⟩:=hm;obtain⟨k2,hq⟩:=hq;have hb:=MQ (P:=P) (b:=true) (w:=X.w) (len:=es.length) (cap:=c) (lo:=lo.map a.eval) (by rcases hn with⟨hn,_⟩|hn;exact .inl hn;exact .inr hn) hm hq h1 (by omega);have hlen:(es.take m.toNat).length=m.toNat:=by simp;omega
  have hrun:(Instr.sliceAt ty (.slice ad es.length c) (lo.map a.eval) (hi'.map a.eval) (some (a.eval mx))).run P X.w=.ok (.slice (if m.toNat=0 then ad else ad.map (·.add (0*(T e).size))) m.toNat m.toNat) X.w:=by
   simp only[Instr.sliceAt,Sem.run_bind,run_underlying (bB hT hk),Result.andThen_ok];simp only[Instr.slice,Sem.run_bind,run_underlying (bB hT hk),Result.andThen_ok,hb,dX hT (bI hT hs),Sem.run_pure,Nat.sub_zero]
  refine Val.same hi hrun (tI (x:=.full k (es.take m.toNat)) ?_) h;refine⟨_,by rw[hlen],?_⟩
  rcases hL with rfl|⟨bl,off,rfl,hS,hL⟩
  .simp_all
  .by_cases he:m.toNat=0
   .simp_all
   .refine .inr ⟨bl,off,?_,hS,hL.take _⟩;simp[iE]
 .simp_all
theorem zBC(hT:bM P T)(hi:HInv X){t:Fr}{a:Act}(hρ:∀x,bD X (evD t x) (a.eval x)){x:DV}{lo:Option Operand}(hx:bD X x vx)
 (h:PS T ty X.h x (bnd t lo) (bnd t hi') λd=>K d X.h):Val X K ((Instr.sliceAt ty vx (lo.map a.eval) (hi'.map a.eval) none).run P X.w):=by
 unfold PS at h;split at h
 .rename_i l hk;obtain⟨n,h,hn⟩:=kF hρ h;obtain⟨m,⟨h0,h1,h2,h⟩,hm⟩:=kF hρ h;simp only[bD,cA,cZ] at hx;subst hx;refine Val.same hi (v:=.string ⟨((l.take m.toNat).drop n.toNat).toArray⟩) ?_ (zR (x:=.s _) rfl) h;have hb:=fO (P:=P) (b:=false) (w:=X.w) (len:=l.length) (cap:=l.length) hn hm h0 h1 h2 (Nat.le_refl _);simp only[Instr.sliceAt,Sem.run_bind,run_underlying (mF hT hk),Result.andThen_ok];simp only[Instr.slice,Sem.run_bind,run_underlying (mF hT hk),Result.andThen_ok];have hsz:(⟨l.toArray⟩:ByteArray).size=l.length:=by simp[ByteArray.size]
  rw[hsz];simp only[Option.isSome_none,Bool.false_eq_true,if_false,Sem.run_bind,hb,Result.andThen_ok,Sem.run_pure]
  congr 2
  apply ByteArray.ext;rw[ByteArray.data_extract];grind
 .rename_i e k es hk;obtain⟨hs,hsz,h⟩:=h;obtain⟨n,h,hn⟩:=kF hρ h;obtain⟨m,⟨h0,h1,h2,h⟩,hm⟩:=kF hρ h;simp only[bD,cA,cZ] at hx;obtain⟨ad,c,rfl,hc,hL⟩:=hx;have hb:=fO (P:=P) (b:=true) (w:=X.w) hn hm h0 h1 h2 hc;have hlen:((es.take m.toNat).drop n.toNat).length=m.toNat-n.toNat:=by simp;omega
  have hrun:(Instr.sliceAt ty (.slice ad es.length c) (lo.map a.eval) (hi'.map a.eval) none).run P X.w=.ok (.slice (if c=n.toNat then ad else ad.map (·.add (n.toNat*(T e).size))) (m.toNat-n.toNat) (c-n.toNat)) X.w:=by
   simp only[Instr.sliceAt,Sem.run_bind,run_underlying (bB hT hk),Result.andThen_ok];simp only[Instr.slice,Sem.run_bind,run_underlying (bB hT hk),Result.andThen_ok,hb,dX hT (bI hT hs),Sem.run_pure]
  refine Val.same hi hrun (zR (x:=.sl k ((es.take m.toNat).drop n.toNat)) ?_) h;simp only[cZ];refine⟨_,_,by rw[hlen],by rw[hlen];omega,?_⟩
  rcases hL with rfl|⟨bl,off,rfl,hS,hL⟩
  .exact .inl (by simp)
  .by_cases he:m.toNat=n.toNat
   .exact .inl (List.eq_nil_of_length_eq_zero (by omega))
   .refine .inr ⟨bl,off+n.toNat*k,?_,hS,(hL.take _).drop _⟩;rw[if_neg (by omega),hsz];simp[iE]
 .rename_i e hk;obtain⟨hs,h⟩:=h;obtain⟨n,h',hn⟩:=kF hρ h;obtain⟨m,⟨h0,h1,h2,hK⟩,hm⟩:=kF hρ h';simp only[bD,cA,cZ] at hx;subst hx;have hn0:n=0:=by omega
  have hm0:m=0:=by omega
  subst hn0;subst hm0;have hb:=fO (P:=P) (b:=true) (w:=X.w) (len:=0) (cap:=0) (hi:=hi'.map a.eval) (y:=0) hn (by rcases hm with⟨hm,_⟩|hm;exact .inl ⟨hm,rfl⟩;exact .inr hm) (by omega) (by omega) (by omega) (Nat.le_refl _);refine Val.same hi (v:=.slice none 0 0) ?_ (zR (x:=.nil) rfl) hK;simp only[Instr.sliceAt,Sem.run_bind,run_underlying (bB hT hk),Result.andThen_ok];simp only[Instr.slice,Sem.run_bind,run_underlying (bB hT hk),Result.andThen_ok,hb,dX hT (bI hT hs),Sem.run_pure];simp
 .rename_i e id off len hk;split at h
  .rename_i k es ro he;obtain⟨hs,hsz,h⟩:=h;obtain⟨n,h',hn⟩:=kF hρ h;obtain⟨m,⟨h0,h1,h2,hK⟩,hm⟩:=kF hρ h';obtain⟨hid,_,h3⟩:=hx;obtain⟨h4,h5⟩:=h3 _ _ _ he;cases hG:X.G id with
   | none =>
    rw [hG] at h5;simp only at h5;subst h5;have hlen0:len=0:=by
     have hb:=hi.blk id _ he;simp only[eC] at hb;simp_all
    subst hlen0;have hn0:n=0:=by omega
    have hm0:m=0:=by omega
    subst hn0;subst hm0;have hb:=fO (P:=P) (b:=true) (w:=X.w) (len:=0) (cap:=0) (hi:=hi'.map a.eval) (y:=0) hn hm (by omega) (by omega) (by omega) (Nat.le_refl _);refine Val.same hi (v:=.slice none 0 0) ?_ (tI (x:=.own id off 0) ⟨hid,rfl,λk' es' ro' hc=>⟨by rw[he] at hc;cases hc;omega,by rw[hG]⟩⟩) (by simpa using hK)
    simp only[Instr.sliceAt,Sem.run_bind,run_underlying (bB hT hk),Result.andThen_ok];simp only[Instr.slice,Sem.run_bind,run_underlying (bB hT hk),Result.andThen_ok,hb,dX hT (bI hT hs),Sem.run_pure];simp
   | some g =>
    rw [hG] at h5;obtain⟨cap,o,arr,el,fz,h6,rfl,h7,h8,h9,h10⟩:=h5;have hb:=fO (P:=P) (b:=true) (w:=X.w) hn hm h0 h1 h2 h8;have hrun:(Instr.sliceAt ty (.slice (some ⟨g.1,o,none⟩) len cap) (lo.map a.eval) (hi'.map a.eval) none).run P X.w =
      .ok (.slice (some ⟨g.1,if cap=n.toNat then o else o+n.toNat*k,none⟩) (m.toNat-n.toNat) (cap-n.toNat)) X.w:=by
     simp only[Instr.sliceAt,Sem.run_bind,run_underlying (bB hT hk),Result.andThen_ok];simp only[Instr.slice,Sem.run_bind,run_underlying (bB hT hk),Result.andThen_ok,hb,dX hT (bI hT hs),Sem.run_pure,hsz]
     congr 2
     split
     .rfl
     .simp[iE]
    refine Val.same hi hrun (tI (x:=.own id (off+n.toNat) (m.toNat-n.toNat)) ⟨hid,rfl,λk' es' ro' hc=>?_⟩) hK;rw[he] at hc;cases hc;refine⟨by omega,?_⟩
    rw[hG];refine⟨cap-n.toNat,_,arr,el,fz,h6,rfl,?_,by omega,by omega,?_⟩
    .by_cases hcn:cap=n.toNat
     .exact .inl (by omega)
     .right;rw[if_neg hcn];rcases h7 with h7|h7
      .omega
      .rw[h7,Nat.add_mul];omega
    .have:off+n.toNat+(cap-n.toNat)=off+cap:=by omega
     rw[this];exact h10
  .exact h.elim
 .exact h.elim
theorem xI{w:World}{S:Nat->Prop}:∀{es:List (List PV)} {l:List UInt8} {vs:List Value},bytesOf es=some l->bQ w S es.flatten vs->∃ns:List Int,vs=ns.map (Value.int .u8)/\ns.map (λn=>UInt8.ofNat n.toNat)=l/\es.length=l.length
 | [],l,vs,h,hr=>by
  simp only[bytesOf,Option.some.injEq] at h;subst h;cases vs with
  | nil=>exact⟨[],rfl,rfl,rfl⟩
  | cons _ _=>exact hr.elim
 | e::es,l,vs,h,hr=>by
  simp only[bytesOf] at h;split at h
  .rename_i b l' hb hl;simp only[Option.some.injEq] at h;subst h;unfold byteOf at hb;split at hb
   .rename_i n;simp only[Option.some.injEq] at hb;subst hb;simp only[List.flatten_cons,List.cons_append,List.nil_append] at hr;cases vs with
    | nil=>exact hr.elim
    | cons v vs =>
     obtain⟨h1,h2⟩:=hr;simp only[cZ] at h1;subst h1;obtain⟨ns,rfl,h4,h5⟩:=xI hl h2;exact⟨n::ns,rfl,by simp[h4],by simp[h5]⟩
   .cases hb
  .cases h
theorem foldl_push_bytes: ∀(ns:List Int) (s:ByteArray),ns.foldl (λr n=>r.push (UInt8.ofNat n.toNat)) s=⟨(s.data.toList++ns.map λn=>UInt8.ofNat n.toNat).toArray⟩
 | [],s=>by simp
 | n::ns,s=>by
  simp only[List.foldl_cons];rw[foldl_push_bytes ns];simp
theorem xK{X:Ctx}(hi:HInv X){d:DV}{v:Value}{es:List (List PV)}(hd:bD X d v)(he:BB X.h d=some es):
  ∃ a c vs,v=.slice a es.length c/\bQ X.w X.S es.flatten vs/\(a=none->es=[]) /\
   ∀ad,a=some ad->∀(j:Nat) (u:Value),vs[j]?=some u->X.w.cell? (ad.add j)=some u:=by
 have base:∀{a:Option Addr} {k:Nat} {es:List (List PV)},(es=[]∨∃bl off,a=some ⟨bl,off,none⟩/\fP X.w X.S k bl off es) ->
   ∃vs:List Value,bQ X.w X.S es.flatten vs/\(a=none->es=[])/\∀ad,a=some ad->∀(j:Nat) (u:Value),vs[j]?=some u->X.w.cell? (ad.add j)=some u:=by
  intro a k es h;rcases h with rfl|⟨bl,off,rfl,hL⟩
  .exact⟨[],True.intro,λ_=>rfl,λad h j u h=>by simp at h⟩
  .obtain⟨vs,h1,_,h2⟩:=hL.vals;exact⟨vs,h1,(λh=>by cases h),(λad h j u hj=>by cases h;rw[iE];exact h2 j u hj)⟩
 unfold BB at he;split at he
 .cases he;simp only[bD,cA,cZ] at hd;exact⟨none,0,[],hd,True.intro,(λ_=>rfl),(λad h=>by cases h)⟩
 .rename_i k es';cases he;simp only[bD,cA,cZ] at hd;obtain⟨a,c,rfl,hc,hL⟩:=hd;obtain⟨vs,h1,h2,h3⟩:=base (a:=a) (k:=k) (es:=es) (by
   rcases hL with hL|⟨bl,off,h1,_,h2⟩
   .exact .inl hL
   .exact .inr ⟨bl,off,h1,h2⟩)
  exact⟨a,c,vs,rfl,h1,h2,h3⟩
 .rename_i id off len;split at he
  .rename_i k es' ro hx;cases he;obtain⟨_,_,h3⟩:=hd;obtain⟨h4,h5⟩:=h3 _ _ _ hx;have hlen:((es'.drop off).take len).length=len:=by simp;omega
   have hb:=hi.blk id _ hx;simp only[eC] at hb;cases hG:X.G id with
   | none =>
    rw[hG] at h5;rcases hb with hb|⟨g',_,_,_,hg,_⟩
    .rw[hb.2] at h4 hlen ⊢;have:len=0:=by simp at h4;omega
     subst this;exact⟨none,0,[],by simpa using h5,by simp[bQ],(λ_=>by simp),(λad h=>by cases h)⟩
    .rw[hG] at hg;cases hg
   | some g =>
    rw[hG] at h5;obtain⟨cap,o,arr,el,fz,h6,rfl,h7,h8,h9,h10⟩:=h5;rcases hb with hb|⟨g',_,_,_,hg,_,_,_,hL⟩
    .rw[hG] at hb;cases hb.1
    rw [hG] at hg;cases hg;obtain⟨vs,h11,h12,h13⟩:=base (a:=some ⟨g.1,o,none⟩) (k:=k) (es:=(es'.drop off).take len) (by
     rcases h7 with h7|h7
     .exact .inl (List.eq_nil_of_length_eq_zero (by omega))
     .exact .inr ⟨g.1,g.2+off*k,by rw[h7],(hL.drop off).take len⟩)
    exact⟨_,cap,vs,by rw[hlen],h11,h12,h13⟩
  .cases he
 .cases he
end cuts
end Go.Dm
end
section
namespace Go.Dm
open Go
section news
variable {P:Program}{T:Tab}{X:Ctx}{K:DV->aD->Prop}
variable {vs:List Value}{arr:Array Value}{fz:Nat × Nat}{ts:Array TypeId}
theorem bQ.length_flatten{w:World}{S:Nat->Prop}{es:List (List PV)}{k:Nat}(h:bQ w S es.flatten vs)(hl:∀e∈es,e.length=k):vs.length=es.length*k:=by
 rw[<- h.length,eW hl]
theorem AE: ∀{es:List (List PV)} {l:List UInt8},bytesOf es=some l->∀e∈es,e.length=1
 | [],_,_,e,he=>by simp at he
 | x::es,l,h,e,he=>by
  simp only[bytesOf] at h;split at h
  .rename_i b l' hb hl;rcases List.mem_cons.1 he with rfl|he
   .unfold byteOf at hb;split at hb
    .rfl
    .cases hb
   .exact AE hl e he
  .cases h
theorem zBF(l:List UInt8):bytesOf (bU l)=some l:=by
 induction l with
 | nil=>rfl
 | cons b l ih =>
  have hb:byteOf [.i .u8 (b.toNat:Int)]=some b:=by
   simp only[byteOf,Int.toNat_natCast,Option.some.injEq];exact UInt8.ofNat_toNat
  have:bU (b::l)=[.i .u8 (b.toNat:Int)]::bU l:=rfl;simp only[this,bytesOf,hb,ih]
theorem PU(l:List UInt8):(bU l).flatten=l.map λb=>PV.i .u8 (b.toNat:Int):=by
 induction l with
 | nil=>rfl
 | cons b l ih =>
  have:bU (b::l)=[.i .u8 (b.toNat:Int)]::bU l:=rfl;rw[this,List.flatten_cons,ih];rfl
theorem sW(hi:HInv X){w':World}{el:TypeId}{k:Nat}{es:List (List PV)}(hw:Grew X.w w' (.cells arr el fz))
 (hl:∀e∈es,e.length=k)(hr:bQ X.w X.S es.flatten vs)(hv:∀(j:Nat) (v:Value),vs[j]?=some v->arr[j]?=some v)(hsz:es.length*k<=arr.size)(hf:tQ k fz 0 arr.size):
  Step X (X.push w' (.arr k es false))/\HInv (X.push w' (.arr k es false)):=by
 have hs:=Step.push hi hw (.arr k es false);refine⟨hs,HInv.push hi hw ?_ rfl⟩;have hG:(X.push w' (.arr k es false)).G X.h.length=some (X.w.heap.size,0):=by simp[Ctx.push]
 simp only[eC];refine .inr ⟨_,arr,el,fz,hG,hw.new,by simpa using hsz,hf,fP.of_vals hl (hr.kept hs.kept) λj v hj=>?_⟩
 show w'.cell? _=_;simp only[World.cell?,hw.new,Option.isSome_none,Bool.false_eq_true,if_false,Nat.zero_add];exact hv j v hj
theorem tC{w':World}{el:TypeId}{k n cap:Nat}{es:List (List PV)}(hw:Grew X.w w' (.cells arr el fz))(hn:n<=es.length)(hc:n<=cap)(hm:cap<=maxLen)(hsz:cap*k<=arr.size):
  bD (X.push w' (.arr k es false)) (.c (.own X.h.length 0 n)) (.slice (some ⟨X.w.heap.size,0,none⟩) n cap):=by
 refine tI (x:=.own X.h.length 0 n) ⟨by simp[Ctx.push],rfl,λk' es' ro hh=>?_⟩
 simp only[Ctx.push,List.getElem?_concat_length,Option.some.injEq,DB.arr.injEq] at hh;obtain⟨rfl,rfl,rfl⟩:=hh;refine⟨by omega,?_⟩
 simp only[Ctx.push,if_true];exact⟨cap,0,arr,el,fz,hw.new,rfl,.inr (by simp),hc,hm,by simpa using hsz⟩
theorem zF6(hi:HInv X){w':World}{el:TypeId}{cells:List CV}(hw:Grew X.w w' (.cells arr el fz))(hr:bF X cells arr.toList)(hf:ZQ fz 0 arr.size):
  Step X (X.push w' (.box cells))/\HInv (X.push w' (.box cells))/\bD (X.push w' (.box cells)) (.c (.ptr X.h.length 0)) (.pointer (some ⟨X.w.heap.size,0,none⟩)):=by
 have hs:=Step.push hi hw (.box cells);have hG:(X.push w' (.box cells)).G X.h.length=some (X.w.heap.size,0):=by simp[Ctx.push]
 refine⟨hs,HInv.push hi hw ?_ rfl,tI (x:=.ptr X.h.length 0) ⟨by simp[Ctx.push],rfl,λcs _=>⟨_,hG,rfl⟩⟩⟩
 simp only[eC];refine⟨_,arr,el,fz,hG,hw.new,by have:=hr.length;simp at this ⊢;omega,hf,cU.mk λj c hc=>?_⟩
 obtain⟨v,h1,h2⟩:=hr.at_ hc;refine⟨v,?_,h2.step hs⟩;show w'.cell? _=_;simp only[World.cell?,hw.new,Option.isSome_none,Bool.false_eq_true,if_false,Nat.zero_add];simpa using h1
theorem ZQ.zero(lo hi:Nat):ZQ (0,0) lo hi:=.inl rfl
theorem Grew.alloc(w:World)(o:Obj):Grew w (w.alloc o) o:=⟨rfl,rfl,rfl,tM.rfl'⟩
theorem Grew.drew{w w':World}{o:Obj}(h:Grew w.drew w' o):Grew w w' o:=⟨h.heap,h.os,h.tape,h.output.1,Nat.le_trans (Nat.le_succ _) h.output.2⟩
theorem zLZ(hi:HInv X){t:TypeId}{x:DV}{v:Value}{ys:List CV}(hx:bD X x v)(hc:cellsD x=some ys)(h:K (.c (.ptr X.h.length 0)) (X.h++[.box ys])):Val X K ((Instr.box t v).run P X.w):=by
 obtain⟨h1,h2,h3⟩:=zF6 hi (Grew.alloc X.w (.cells v.cells t)) (qS hx hc) (ZQ.zero _ _);refine⟨_,_,_,?_,h2,h1,h3,h⟩;simp[Instr.box,newVar,newRow,Ctx.push]
theorem zDk(hT:bM P T)(hi:HInv X){t:Nat}(hk:(T t).k≠.no)(h:K (.c (.ptr X.h.length 0)) (X.h++[.box ((T t).zero.map .p)])):Val X K ((Instr.alloc t true (.tuple #[])).run P X.w):=by
 obtain⟨_,i,z,h1,h2,h3,h4,h5,h6,h7⟩:=cC hT hk;obtain⟨h8,h9,h10⟩:=zF6 hi (Grew.alloc X.w (.cells z.cells t)) (bF.of_ps (jX h5)) (ZQ.zero _ _);refine⟨_,_,_,?_,h9,h8,h10,h⟩;simp[Instr.alloc,zeroValue,typeInfo,h1,h4,newVar,newRow,Ctx.push]
theorem ER{w:World}{bl:Nat}{el:TypeId}(h:w.heap[bl]?=some (.cells arr el fz))(n:Nat):
  Touched w (w.freeze ⟨bl,n,none⟩ 1) bl/\(w.freeze ⟨bl,n,none⟩ 1).heap[bl]?=some (.cells arr el (if fz.1==fz.2 then (n,n+1) else (min fz.1 n,max fz.2 (n+1)))):=by
 have hh:(w.freeze ⟨bl,n,none⟩ 1).heap[bl]?=some (.cells arr el (if fz.1==fz.2 then (n,n+1) else (min fz.1 n,max fz.2 (n+1)))):=by
  simp[World.freeze,Array.getElem?_modify,h]
 refine⟨⟨rfl,rfl,tM.rfl',by simp[World.freeze],λb hb=>?_,?_⟩,hh⟩
 .simp only[World.freeze,Nat.succ_ne_self,if_false];rw[Array.getElem?_modify,if_neg (λe=>hb e.symm)]
 .exact .inl ⟨_,_,_,_,_,_,h,hh,rfl⟩
theorem zDR(hT:bM P T)(hi:HInv X){src dst:Nat}{x:DV}{v:Value}(hx:bD X x v)(h:zDQ T src dst x X.h K):Val X K ((convert src dst v).run P X.w):=by
 unfold zDQ at h;split at h
 .rename_i k0 k k' n hks hkd;simp only[bD,cA,cZ] at hx;subst hx;exact Val.same hi (by simp[convert,run_underlying (qM hT hks),run_underlying (qM hT hkd),Conv.intToInt]) (zR (x:=.i _ _) rfl) h
 .rename_i l hks hkd;simp only[bD,cA,cZ] at hx;subst hx;exact Val.same hi (by simp[convert,run_underlying (mF hT hks),run_underlying (mF hT hkd)]) (zR (x:=.s _) rfl) h
 .rename_i e hks hkd;split at h
  .rename_i es hke hes;split at h
   .rename_i l hl;obtain⟨a,c,vs,rfl,h1,h2,h3⟩:=xK hi hx hes;obtain⟨ns,rfl,h4,h5⟩:=xI hl h1;refine Val.same hi (v:=.string ⟨l.toArray⟩) ?_ (zR (x:=.s _) rfl) h;rw[run_convert_bytes_string X.w src dst e a es.length c (bB hT hks) (qM hT hke) (mF hT hkd)];cases a with
    | none =>
     have:=h2 rfl;subst this;simp only[bytesOf,Option.some.injEq] at hl;subst hl;simp[Conv.bytesToString];rfl
    | some ad =>
     have hlc:=run_loadCells_list (P:=P) X.w ad (ns.map (Value.int .u8)) (h3 ad rfl);have hnl:(ns.map (Value.int .u8)).length=es.length:=by
      rw[h5,<- h4];simp
     rw[hnl] at hlc;rw[run_bytesToString X.w ad es.length c ns hlc,foldl_push_bytes,h4];simp
   .exact h.elim
  .exact h.elim
 .rename_i e l hks hkd;split at h
  .rename_i hke;obtain⟨hsz,hln,h⟩:=h;simp only[bD,cA,cZ] at hx;subst hx;have hrun:=Lib.run_convert_string_bytes (P:=P) X.w src dst e ⟨l.toArray⟩ (mF hT hks) (bB hT hkd) (qM hT hke);have hbs:(⟨l.toArray⟩:ByteArray).size=l.length:=by simp[ByteArray.size]
   rw [hbs] at hrun;have hge:=grownCap_ge X.w l.length 0 e;have hle:=grownCap_le_maxLen X.w l.length 0 e (by unfold maxLen;omega);have hsize:(Lib.bytesCells X.w e ⟨l.toArray⟩).size=grownCap X.w l.length 0 e:=by
    simp only[Lib.bytesCells,hbs];simp;omega
   have hg:Grew X.w (Lib.bytesWorld X.w e ⟨l.toArray⟩) (.cells (Lib.bytesCells X.w e ⟨l.toArray⟩) e ((Lib.bytesCells X.w e ⟨l.toArray⟩).size,(Lib.bytesCells X.w e ⟨l.toArray⟩).size+1)):=by
    refine⟨?_,?_,?_,?_⟩
    .apply Array.ext
     .rw[Lib.bytesWorld_size,Array.size_push]
     .intro i h1 h2;rw[Lib.bytesWorld_size] at h1;have:=Lib.bytesWorld_at_new X.w e ⟨l.toArray⟩;have hold:=Lib.bytesWorld_at_old X.w e ⟨l.toArray⟩ i;rcases Nat.lt_or_ge i X.w.heap.size with hlt|hge
      .have:=hold hlt;rw[Array.getElem_push_lt hlt];rw[Array.getElem?_eq_getElem (by rw[Lib.bytesWorld_size];omega),Array.getElem?_eq_getElem hlt] at this;exact Option.some.inj this
      .have hi':i=X.w.heap.size:=by omega
       subst hi';rw[Array.getElem_push_eq];rw[Array.getElem?_eq_getElem (by rw[Lib.bytesWorld_size];omega)] at this;exact Option.some.inj this
    all_goals
     first|(constructor<;>simp only[Lib.bytesWorld,World.freeze]<;>split<;>first|rfl|exact Nat.le_succ _|exact Nat.le_refl _)|(simp only[Lib.bytesWorld,World.freeze];split<;>rfl)
   have hr:bQ X.w X.S (bU l).flatten (l.map λb=>Value.int .u8 (b.toNat:Int)):=by
    rw [PU];exact bQ.mk (by simp) λj c v h1 h2=>by
     rw[List.getElem?_map] at h1 h2;obtain⟨b,hb,rfl⟩:=Option.map_eq_some_iff.1 h1;rw[hb] at h2;cases h2;rfl
   have hel:(bU l).length=l.length:=by simp[bU]
   obtain ⟨h1,h2⟩:=sW (k:=1) hi hg (λe he=>AE (zBF l) e he) hr (λj v hj=>by
     have hjl:=aK hj;simp only[List.length_map] at hjl;simp only[Lib.bytesCells];rw[Array.getElem?_append_left (by simp;omega)];rw[List.getElem?_map] at hj;simpa using hj) (by rw[hsize,hel];omega) ⟨.inr (Nat.le_refl _),.inl rfl⟩
   exact⟨_,_,_,hrun,h2,h1,tC (k:=1) (es:=bU l) hg (by rw[hel];exact Nat.le_refl _) hge hle (by rw[hsize];omega),h⟩
  .exact h.elim
 .rename_i e e' id off len hks hkd;split at h
  .rename_i k es he;obtain⟨rfl,hke,hpos,hk1,h⟩:=h;rw[hks] at hkd;cases hkd;have hx0:=hx;simp only[bD,cA] at hx;obtain⟨_,_,h3⟩:=hx;obtain⟨h4,h5⟩:=h3 _ _ _ he;have hb:=hi.blk id _ he;simp only[eC] at hb;rcases hb with hb|⟨g,arr,el,fz,hg,hb,h6,h7,h8⟩
   .rw[hb.2] at h4;simp only[List.length_nil] at h4;omega
   rw [hg] at h5;obtain⟨cap,o,arr',el',fz',k1,rfl,_⟩:=h5;obtain⟨hto,hnew⟩:=ER hb arr.size;have hset:X.h.set id (.arr k es false)=X.h:=by
    apply List.ext_getElem?;intro i;rw[List.getElem?_set];split
    .rename_i e1;subst e1;exact he.symm
    .rfl
   have hst:=Step.put hi he rfl rfl hg hto (d:=.arr k es false) ⟨rfl,Nat.le_refl _⟩ rfl;have hin:HInv (X.put (X.w.freeze ⟨g.1,arr.size,none⟩ 1) id (.arr k es false)):=HInv.put hi he rfl rfl hg hto ⟨rfl,Nat.le_refl _⟩ rfl (by
    simp only[eC];refine .inr ⟨g,arr,el,_,hg,hnew,h6,?_,?_⟩
    .refine ⟨?_,.inl hk1⟩;have h7:=h7.1;simp only[ZQ] at h7 ⊢;split
     .exact .inr (Nat.le_refl _)
     .rename_i hne;simp only[beq_iff_eq] at hne;rcases h7 with h7|h7
      .exact absurd h7 hne
      .exact .inr (by simp only;omega)
    .obtain⟨vs,q1,_,q3⟩:=h8.vals;refine fP.of_vals (λe he'=>?_) (bQ.kept hst.kept q1) λj v hj=>?_
     .obtain⟨j,hj⟩:=List.mem_iff_getElem?.1 he';exact(h8.at_ hj).1
     .have:=q3 j v hj;simp only[World.cell?,hb] at this;simp only[World.cell?,Ctx.put,hnew];exact this)
   refine⟨_,_,_,?_,hin,hst,hx0.step hst,by simp only[Ctx.put,hset];exact h⟩
   simp[convert,run_underlying (bB hT hks),run_underlying (qM hT hke),markStringish,World.shape?,hb,Ctx.put]
  .exact h.elim
 .exact h.elim
theorem zIj(hT:bM P T)(hi:HInv X){t:Nat}{x:DV}{v:Value}{ty:TypeId}(ht:ts[0]?=some t)(hx:bD X x v)(h:dlen (T t) X.h x λd=>K d X.h):Val X K ((Builtin.len_ ts ty #[v]).run P X.w):=by
 unfold dlen at h;split at h
 .rename_i l hk;simp only[bD,cA,cZ] at hx;subst hx;refine Val.same hi (v:=.int .i64 l.length) ?_ (zR (x:=.i _ _) rfl) h;have hsz:(⟨l.toArray⟩:ByteArray).size=l.length:=rfl;simp[Builtin.len_,ht,run_underlying (mF hT hk),hsz,goInt]
 .rename_i e k es hk;simp only[bD,cA,cZ] at hx;obtain⟨a,c,rfl,hc,hL⟩:=hx;refine Val.same hi (v:=.int .i64 es.length) ?_ (zR (x:=.i _ _) rfl) h;simp[Builtin.len_,ht,run_underlying (bB hT hk),goInt]
 .rename_i e hk;simp only[bD,cA,cZ] at hx;subst hx;refine Val.same hi (v:=.int .i64 0) ?_ (zR (x:=.i _ _) rfl) h;simp[Builtin.len_,ht,run_underlying (bB hT hk),goInt]
 .rename_i e id off len hk;split at h
  .rename_i k es ro he;obtain⟨_,_,h3⟩:=hx;obtain⟨h4,h5⟩:=h3 _ _ _ he;refine Val.same hi (v:=.int .i64 len) ?_ (zR (x:=.i _ _) rfl) h;have:∃a c,v=.slice a len c:=by
    cases hG:X.G id with
    | none =>
     rw[hG] at h5;have hb:=hi.blk id _ he;simp only[eC] at hb;rcases hb with hb|⟨g',_,_,_,hg,_⟩
     .rw[hb.2] at h4;have:len=0:=by simp at h4;omega
      subst this;exact⟨none,0,h5⟩
     .rw[hG] at hg;cases hg
    | some g =>
     rw[hG] at h5;obtain⟨cap,o,arr,el,fz,h6,h7,_⟩:=h5;exact⟨_,_,h7⟩
   obtain⟨a,c,rfl⟩:=this;simp[Builtin.len_,ht,run_underlying (bB hT hk),goInt]
  .exact h.elim
 .rename_i n e hk;refine Val.same hi (v:=.int .i64 n) ?_ (zR (x:=.i _ _) rfl) h;simp[Builtin.len_,ht,run_underlying (qL hT hk),goInt]
 .exact h.elim
theorem zD3(hi:HInv X){lt:Bool}{xs:List DV}{ty:TypeId}(hx:dI X xs vs)(h:dmm lt xs λd=>K d X.h):
  Val X K ((if lt then Builtin.min_ ts ty vs.toArray else Builtin.max_ ts ty vs.toArray).run P X.w):=by
 unfold dmm at h;split at h
 .rename_i k a k' b
  match vs,hx with
  | [v1,v2],⟨h1,h2,_⟩ =>
   simp only[bD,cA,cZ] at h1 h2;subst h1;subst h2;refine Val.same hi ?_ (zR (x:=.i _ _) rfl) h;cases lt
   .simp[Builtin.max_,Builtin.max2]
   .simp[Builtin.min_,Builtin.min2]
 .exact h.elim
end news
end Go.Dm
end
end
