/- Part 2 of roomPlays_card. No condition. -/
import Derived.Test.YtfcindonokhbeaaGreatDoorP00
import Derived.Laws.StructEq
import Derived.Deep.AppendSrc
import Derived.Lib.ConvBytes
import Derived.Laws.BytesString
set_option linter.all false
set_option maxRecDepth 100000
set_option maxHeartbeats 0
section
section
namespace Go.Dm
open Go
section
inductive PV where
 | b (x:Bool)
 | i (k:IntKind) (n:Int)
 | s (l:Ba)
 | f (bits:Nat)
 | nil
 | sl (k:Nat) (es:List (List PV))
 | o (x:Value)
abbrev Bc:=List (List PV)
inductive KV where
 | p (x:PV)
 | ptr (id off:Nat)
inductive CV where
 | p (x:PV)
 | own (id off len:Nat)
 | ptr (id off:Nat)
 | aptr (id i j:Nat)
 | mp (id:Nat)
 | bs (id n:Nat)
 | eptr (cs:List PV)
 | full (k:Nat) (es:Bc)
 | clo (f:FuncId) (cap:List KV)
abbrev Bf:=List CV
inductive EV where
 | c (x:CV)
 | agg (xs:Bf)
abbrev Bj:=List EV
inductive DV where
 | jk
 | c (x:CV)
 | agg (xs:Bf)
 | tup (xs:Bj)
abbrev Bi:=List DV
inductive DB where
 | dead
 | box (cells:Bf)
 | arr (k:Nat) (es:Bc) (ro:Bool)
 | mp (es:List (Int × PV))
abbrev aF:=List DB
abbrev Bd:=DV->aF->Prop
def DB.live:DB->Bool
 | .dead=>false
 | _=>true
def DB.fix:DB->Bool
 | .arr _ _ r=>r
 | _=>false
structure Ctx where
 w:World
 S:Nat->Prop
 G:Nat->Option (Nat × Nat)
 h:aF
mutual
def dO(w:World)(S:Nat->Prop):PV->Value->Prop
 | .b x,v=>v=.bool x
 | .i k n,v=>v=.int k n
 | .s l,v=>v=.string ⟨l.toArray⟩
 | .f x,v=>v=.float .f64 x
 | .nil,v=>v=.slice none 0 0
 | .sl k es,v=>∃a c,v=.slice a es.length c/\es.length<=c/\(es=[]∨∃bl off,a=some ⟨bl,off,none⟩/\S bl/\hD w S k bl off es)
 | .o x,v=>v=x/\x.oneCell'=true
def jC(w:World)(S:Nat->Prop)(bl:Nat)(off:Nat):List PV->Prop
 | []=>True
 | c::cs=>(∃v,w.cell? ⟨bl,off,none⟩=some v/\dO w S c v)/\jC w S bl (off+1) cs
def hD(w:World)(S:Nat->Prop)(k:Nat)(bl:Nat)(off:Nat):Bc->Prop
 | []=>True
 | e::es=>(e.length=k/\jC w S bl off e)/\hD w S k bl (off+k) es
end
variable {S:Nat->Prop}
theorem sJ{w:World}{x:PV}{v:Value}(h:dO w S x v):v.oneCell'=true:=by
 cases x<;>simp only[dO] at h
 case b=>subst h;rfl
 case i=>subst h;rfl
 case s=>subst h;rfl
 case f=>subst h;rfl
 case nil=>subst h;rfl
 case sl=>obtain⟨a,c,rfl,_⟩:=h;rfl
 simp_all
def uK(w w':World)(S S':Nat->Prop):Prop:=∀b,S b->S' b/\w'.heap[b]?=w.heap[b]?
theorem uK.cell{w w':World}{S':Nat->Prop}(h:uK w w' S S'){b:Nat}(a:S b)(o:Nat):w'.cell? ⟨b,o,none⟩=w.cell? ⟨b,o,none⟩ :=
 World.cell?_of_block (h b a).2
theorem dO.nilOf{w:World}{v:Value}(k:Nat)(h:dO w S .nil v):dO w S (.sl k []) v:=by grind [dO]
mutual
theorem dO.kept{w w':World}{S S':Nat->Prop}(hk:uK w w' S S'):∀{x:PV} {v:Value},dO w S x v->dO w' S' x v
 | .b _,_,h=>h
 | .i _ _,_,h=>h
 | .s _,_,h=>h
 | .f _,_,h=>h
 | .nil,_,h=>h
 | .sl k es,v,h=>by
  simp only[dO] at h ⊢;obtain⟨a,c,hv,hc,hs⟩:=h;refine⟨a,c,hv,hc,?_⟩;rcases hs with hs|⟨bl,off,ha,hb,hl⟩
  .exact .inl hs
  .exact .inr ⟨bl,off,ha,(hk bl hb).1,hD.move hk (hk bl hb).2 hl⟩
 | .o _,_,h=>h
theorem jC.move{w w':World}{S S':Nat->Prop}(hk:uK w w' S S'){bl:Nat}(hb:w'.heap[bl]?=w.heap[bl]?):∀{off:Nat} {cs:List PV},jC w S bl off cs->jC w' S' bl off cs
 | _,[],_=>by simp only[jC]
 | off,c::cs,h=>by
  simp only[jC] at h ⊢;obtain⟨⟨v,hv,hr⟩,ht⟩:=h;exact⟨⟨v,by rw[World.cell?_of_block (a:=⟨bl,off,none⟩) hb];exact hv,dO.kept hk hr⟩,jC.move hk hb ht⟩
theorem hD.move{w w':World}{S S':Nat->Prop}(hk:uK w w' S S'){k bl:Nat}(hb:w'.heap[bl]?=w.heap[bl]?):∀{off:Nat} {es:Bc},hD w S k bl off es->hD w' S' k bl off es
 | _,[],_=>by simp only[hD]
 | off,e::es,h=>by
  simp only[hD] at h ⊢;exact⟨⟨h.1.1,jC.move hk hb h.1.2⟩,hD.move hk hb h.2⟩
end
variable {S S':Nat->Prop}{cs:List PV}
theorem jC.kept{w w':World}(a:uK w w' S S'){bl:Nat}(b:S bl){off:Nat}(h:jC w S bl off cs):jC w' S' bl off cs:=h.move a (a bl b).2
theorem hD.kept{w w':World}(a:uK w w' S S'){k bl:Nat}(b:S bl){off:Nat}{es:Bc}(h:hD w S k bl off es):hD w' S' k bl off es:=h.move a (a bl b).2
theorem jC.at_{w:World}{bl:Nat}:∀{cs:List PV} {off j:Nat} {c:PV},jC w S bl off cs->cs[j]?=some c->∃v,w.cell? ⟨bl,off+j,none⟩=some v/\dO w S c v
 | [],_,_,_,_,h=>by simp_all
 | c::cs,off,0,d,h,a=>by grind [jC]
 | c::cs,off,j+1,d,h,a=>by
  obtain⟨v,b,e⟩:=jC.at_ h.2 a;grind
theorem jC.mk{w:World}{bl:Nat}:∀{cs:List PV} {off:Nat},(∀j c,cs[j]?=some c->∃v,w.cell? ⟨bl,off+j,none⟩=some v/\dO w S c v)->jC w S bl off cs
 | [],_,_=>by grind [jC]
 | c::cs,off,h=>by
  refine⟨by simpa using h 0 c rfl,jC.mk λj d a=>?_⟩
  obtain⟨v,b,e⟩:=h (j+1) d (by simpa using a);grind
theorem jC.drop{w:World}{bl:Nat}{off:Nat}(h:jC w S bl off cs)(n:Nat):jC w S bl (off+n) (cs.drop n) :=
 jC.mk λj c a=>by
  rw[gu] at a;obtain⟨v,b,d⟩:=h.at_ a;grind
theorem jC.take{w:World}{bl:Nat}{off:Nat}(h:jC w S bl off cs)(n:Nat):jC w S bl off (cs.take n) :=
 jC.mk λj c a=>by
  rw[gq] at a;split at a
  .exact h.at_ a
  .simp at a
theorem hD.at_{w:World}{k bl:Nat}:∀{es:Bc} {off j:Nat} {e:List PV},hD w S k bl off es->es[j]?=some e->e.length=k/\jC w S bl (off+j*k) e
 | [],_,_,_,_,h=>by simp_all
 | c::cs,off,0,d,h,a=>by grind [hD]
 | c::cs,off,j+1,d,h,a=>by
  obtain⟨b,l⟩:=hD.at_ h.2 a;grind
theorem hD.mk{w:World}{k bl:Nat}:∀{es:Bc} {off:Nat},(∀j e,es[j]?=some e->e.length=k/\jC w S bl (off+j*k) e)->hD w S k bl off es
 | [],_,_=>by grind [hD]
 | c::cs,off,h=>by
  refine⟨by simpa using h 0 c rfl,hD.mk λj d a=>?_⟩
  obtain⟨b,l⟩:=h (j+1) d (by simpa using a);grind
theorem hD.drop{w:World}{k bl:Nat}{es:Bc}{off:Nat}(h:hD w S k bl off es)(n:Nat):hD w S k bl (off+n*k) (es.drop n) :=
 hD.mk λj c a=>by
  rw[gu] at a;obtain⟨b,d⟩:=h.at_ a;grind
theorem hD.take{w:World}{k bl:Nat}{es:Bc}{off:Nat}(h:hD w S k bl off es)(n:Nat):hD w S k bl off (es.take n) :=
 hD.mk λj c a=>by
  rw[gq] at a;split at a
  .exact h.at_ a
  .simp_all
end
section
variable {X X':Ctx}{fz:Nat × Nat}{S S':Nat->Prop}{c:World}{id:Nat}{db:DB}
def rO(X:Ctx):KV->Value->Prop
 | .p x,v=>dO X.w X.S x v
 | .ptr id a,v=>id<X.h.length/\v.oneCell'=true/\∀cells,X.h[id]?=some (.box cells)->∃g,X.G id=some g/\v=.pointer (some ⟨g.1,g.2+a,none⟩)
def gI(X:Ctx):List KV->Bb->Prop
 | [],[]=>True
 | c::cs,v::vs=>rO X c v/\gI X cs vs
 | _,_=>False
def cJ(X:Ctx):CV->Value->Prop
 | .p x,v=>dO X.w X.S x v
 | .own id b len,v=>id<X.h.length/\v.oneCell'=true/\∀k e m,X.h[id]?=some (.arr k e m) ->
   b+len<=e.length/\(match X.G id with
    | none=>v=.slice none 0 0
    | some g=>∃d o arr q fz,X.w.heap[g.1]?=some (.cells arr q fz)/\v=.slice (some ⟨g.1,o,none⟩) len d/\(d=0∨o=g.2+b*k)/\len<=d/\d<=maxLen/\g.2+(b+d)*k<=arr.size)
 | .ptr id b,v=>id<X.h.length/\v.oneCell'=true/\∀cells,X.h[id]?=some (.box cells)->∃g,X.G id=some g/\v=.pointer (some ⟨g.1,g.2+b,none⟩)
 | .aptr id i j,v=>id<X.h.length/\v.oneCell'=true/\∀k e m,X.h[id]?=some (.arr k e m)->∃g,X.G id=some g/\v=.pointer (some ⟨g.1,g.2+i*k+j,none⟩)
 | .bs id n,v=>id<X.h.length/\v.oneCell'=true/\∀cells,X.h[id]?=some (.box cells)->∃g,X.G id=some g/\v=.slice (some ⟨g.1,g.2,none⟩) n n
 | .mp id,v=>id<X.h.length/\v.oneCell'=true/\∀e,X.h[id]?=some (.mp e)->∃g,X.G id=some g/\v=.map (some g.1)
 | .eptr cs,v=>∃l b,v=.pointer (some ⟨l,b,none⟩)/\X.S l/\jC X.w X.S l b cs
 | .full k e,v=>∃a,v=.slice a e.length e.length/\(e=[]∨∃l b,a=some ⟨l,b,none⟩/\X.S l/\hD X.w X.S k l b e)
 | .clo f d,v=>∃vs:Bb,v=.func (.func f) #[] vs.toArray/\gI X d vs
def bP(X:Ctx):Bf->Bb->Prop
 | [],[]=>True
 | c::cs,v::vs=>cJ X c v/\bP X cs vs
 | _,_=>False
def fK(X:Ctx):EV->Value->Prop
 | .c x,v=>cJ X x v
 | .agg a,v=>∃vs:Bb,v=.agg vs.toArray/\bP X a vs
def cY(X:Ctx):Bj->Bb->Prop
 | [],[]=>True
 | c::cs,v::vs=>fK X c v/\cY X cs vs
 | _,_=>False
def bH(X:Ctx):DV->Value->Prop
 | .jk,_=>True
 | .c x,v=>cJ X x v
 | .agg a,v=>∃vs:Bb,v=.agg vs.toArray/\bP X a vs
 | .tup a,v=>∃vs:Bb,v=.tuple vs.toArray/\cY X a vs
def eC(X:Ctx):Bi->Bb->Prop
 | [],[]=>True
 | c::cs,v::vs=>bH X c v/\eC X cs vs
 | _,_=>False
theorem sI{x:CV}{v:Value}(h:cJ X x v):v.oneCell'=true:=by
 cases x<;>simp only[cJ] at h
 case p=>exact sJ h
 case own=>exact h.2.1
 case ptr=>exact h.2.1
 case aptr=>exact h.2.1
 case mp=>exact h.2.1
 case bs=>exact h.2.1
 case eptr=>obtain⟨_,_,rfl,_⟩:=h;rfl
 case full=>obtain⟨_,rfl,_⟩:=h;rfl
 case clo=>obtain⟨_,rfl,_⟩:=h;rfl
def zBN(fz:Nat × Nat)(_lo hi:Nat):Prop:=fz.1=fz.2∨hi<=fz.1
theorem zBN.at_{lo hi:Nat}(h:zBN fz lo hi)(o:Nat)(_:lo<=o)(a:o<hi):¬ (fz.1<=o/\o<fz.2):=by
 rcases h with h|h<;>omega
def wM(k:Nat)(fz:Nat × Nat)(lo hi:Nat):Prop:=zBN fz lo hi/\(k=1∨fz.1=fz.2)
theorem wM.at_{k:Nat}{lo hi:Nat}(h:wM k fz lo hi)(o:Nat)(h1:lo<=o)(a:o<hi):¬ (fz.1<=o/\o<fz.2):=h.1.at_ o h1 a
theorem wM.zero(k lo hi:Nat):wM k (0,0) lo hi:=⟨.inl rfl,.inr rfl⟩
def cR(X:Ctx)(bl:Nat):Nat->Bf->Prop
 | _,[]=>True
 | a,c::cs=>(∃v,X.w.cell? ⟨bl,a,none⟩=some v/\cJ X c v)/\cR X bl (a+1) cs
def NC(w:World)(S:Nat->Prop):List (Int × PV)->List MapEntry->Prop
 | [],[]=>True
 | e::a,m::b=>(m.key=.int .i64 e.1/\dO w S e.2 m.val)/\NC w S a b
 | _,_=>False
def zKp(d:List MapEntry)(c:Nat):Prop:=d.Pairwise (λa b=>a.born<b.born)/\∀e∈d,e.born<c
theorem NC.kept{w w':World}(a:uK w w' S S'):∀{es:List (Int × PV)} {ms:List MapEntry},NC w S es ms->NC w' S' es ms
 | [],[],_=>True.intro
 | _::_,_::_,h=>⟨⟨h.1.1,h.1.2.kept a⟩,NC.kept a h.2⟩
 | [],_::_,h=>h.elim
 | _::_,[],h=>h.elim
def zKq(w:World)(S:Nat->Prop)(es:List (Int × PV))(b:List MapEntry):Prop:=∃a:List (Int × PV),a.Perm es/\(a.map (·.1)).Nodup/\NC w S a b
theorem zKq.kept{w w':World}(d:uK w w' S S'){es:List (Int × PV)}{b:List MapEntry}:zKq w S es b->zKq w' S' es b :=
 λ⟨a,e,k,l⟩=>⟨a,e,k,l.kept d⟩
def fI(X:Ctx)(id:Nat):DB->Prop
 | .dead=>True
 | .box cells=>∃g arr b fz,X.G id=some g/\X.w.heap[g.1]?=some (.cells arr b fz)/\g.2+cells.length<=arr.size/\zBN fz g.2 arr.size/\cR X g.1 g.2 cells
 | .arr k a _=>(X.G id=none/\a=[])∨∃g arr b fz,X.G id=some g/\X.w.heap[g.1]?=some (.cells arr b fz)/\g.2+a.length*k<=arr.size/\wM k fz g.2 arr.size/\hD X.w X.S k g.1 g.2 a
 | .mp a=>∃g d c,X.G id=some g/\X.w.heap[g.1]?=some (.map d c)/\zKq X.w X.S a d.toList/\zKp d.toList c
structure HInv (X:Ctx):Prop where
 slt:∀b,X.S b->b<X.w.heap.size
 blk:∀id db,X.h[id]?=some db->fI X id db
 own:∀id db g,X.h[id]?=some db->db.live=true->X.G id=some g->(db.fix=false->¬ X.S g.1)/\(db.fix=true->X.S g.1)
 inj:∀id db id' db' g g',X.h[id]?=some db->db.live=true->db.fix=false->X.h[id']?=some db'->db'.live=true->X.G id=some g->X.G id'=some g'->g.1=g'.1->id=id'
def cX: DB->DB->Prop
 | .box _,.box _=>True
 | .arr k b _,.arr k' a _=>k'=k/\b.length<=a.length
 | .mp _,.mp _=>True
 | _,_=>False
def yP(o k:Option Obj):Prop:=(∃arr l fz a b d,o=some (.cells arr l fz)/\k=some (.cells a b d)/\a.size=arr.size)∨∃m c e p,o=some (.map m c)/\k=some (.map e p)
theorem yP.some{o a:Option Obj}(h:yP o a):∃x,o=some x:=by
 rcases h with⟨_,_,_,_,_,_,rfl,_⟩|⟨_,_,_,_,rfl,_⟩<;>exact⟨_,rfl⟩
def wP(w w':World):Prop:=w'.output=w.output/\w.drawn<=w'.drawn
theorem wP.rfl'{w:World}:wP w w:=⟨rfl,bg _⟩
theorem wP.trans{a b:World}(h:wP a b)(k:wP b c):wP a c:=⟨k.1.trans h.1,bj h.2 k.2⟩
structure Step (X X':Ctx):Prop where
 size:X.w.heap.size<=X'.w.heap.size
 os:X'.w.os=X.w.os
 tape:X'.w.tape=X.w.tape
 output:wP X.w X'.w
 kept:uK X.w X'.w X.S X'.S
 len:X.h.length<=X'.h.length
 ids:∀id db',id<X.h.length->X'.h[id]?=some db'->db'.live=true->∃db,X.h[id]?=some db/\cX db db'/\X'.G id=X.G id/\∀g,X.G id=some g->yP (X.w.heap[g.1]?) (X'.w.heap[g.1]?)
 frame:∀b,b<X.w.heap.size->(∀id db g,X.h[id]?=some db->db.live=true->db.fix=false->X.G id=some g->g.1≠b)->X'.w.heap[b]?=X.w.heap[b]?
 mine:∀id db g,X'.h[id]?=some db->db.live=true->db.fix=false->X'.G id=some g->X.w.heap.size<=g.1∨∃id0 db0 g0,X.h[id0]?=some db0/\db0.live=true/\db0.fix=false/\X.G id0=some g0/\g0.1=g.1
 upper:∀b,X'.S b->X.S b∨X.w.heap.size<=b∨∃id db g,X.h[id]?=some db/\db.live=true/\X.G id=some g/\g.1=b
theorem cX.live{a b:DB}(h:cX a b):a.live=true:=by grind [cX,DB.live]
theorem cX.trans{a b c:DB}(h:cX a b)(k:cX b c):cX a c:=by
 cases a<;>cases b<;>cases c<;>simp_all[cX];omega
theorem yP.trans{a b c:Option Obj}(h:yP a b)(k:yP b c):yP a c:=by
 rcases h with⟨l,q,f1,m,r,f2,rfl,rfl,p⟩|⟨l,s,m,t,rfl,rfl⟩
 .rcases k with⟨u,v,f3,x,y,f4,d,rfl,e⟩|⟨_,_,_,_,d,_⟩
  .injection d with d;injection d with d _ _;subst d;exact .inl ⟨_,_,_,_,_,_,rfl,rfl,e.trans p⟩
  .cases d
 .rcases k with⟨_,_,_,_,_,_,d,_⟩|⟨_,_,_,_,_,rfl⟩
  .cases d
  .exact .inr ⟨_,_,_,_,rfl,rfl⟩
theorem uK.refl(w:World)(S:Nat->Prop):uK w w S S:=λ_ h=>⟨h,rfl⟩
theorem uK.trans{a b:World}{T U:Nat->Prop}(h:uK a b S T)(k:uK b c T U):uK a c S U :=
 λx d=>⟨(k x (h x d).1).1,(k x (h x d).1).2.trans (h x d).2⟩
theorem aR{α:Type}{l:List α}{i:Nat}{x:α}(h:l[i]?=some x):i<l.length:=by grind
theorem fI.same(h:fI X id db)(e:db.live=true):∀g,X.G id=some g->yP (X.w.heap[g.1]?) (X.w.heap[g.1]?):=by
 intro g a;cases db<;>simp only[DB.live,fI,av] at e h
 case box=>obtain⟨d,arr,k,fz,b,h,_⟩:=h;rw[b] at a;cases a;exact .inl ⟨_,_,_,_,_,_,h,h,rfl⟩
 case arr =>
  rcases h with h|⟨d,arr,k,fz,b,h,_⟩
  .simp_all
  .rw[b] at a;cases a;exact .inl ⟨_,_,_,_,_,_,h,h,rfl⟩
 case mp=>obtain⟨d,l,c,b,h,_⟩:=h;rw[b] at a;cases a;exact .inr ⟨_,_,_,_,h,h⟩
theorem cX.refl{a:DB}(h:a.live=true):cX a a:=by cases a<;>simp_all[cX,DB.live]
theorem Step.refl(hi:HInv X):Step X X where
 size:=bg _
 os:=rfl
 tape:=rfl
 output:=wP.rfl'
 kept:=uK.refl _ _
 len:=bg _
 ids:=λid a _ h b=>⟨a,h,cX.refl b,rfl,(hi.blk id a h).same b⟩
 frame:=λ_ _ _=>rfl
 mine:=λid db g h b d e=>.inr ⟨id,db,g,h,b,d,e,rfl⟩
 upper:=λ_ h=>.inl h
theorem HInv.block_lt(hi:HInv X){g:Nat × Nat}(h:X.h[id]?=some db)(b:db.live=true)(d:X.G id=some g):g.1<X.w.heap.size:=by
 obtain⟨a,e⟩:=((hi.blk id db h).same b g d).some;grind
theorem rO.step(a:Step X X'){x:KV}{v:Value}(h:rO X x v):rO X' x v:=by
 cases x<;>simp only[rO] at h ⊢
 case p=>exact dO.kept a.kept h
 case ptr id e =>
  obtain⟨d,k,m⟩:=h;refine⟨iv d a.len,k,λcells l=>?_⟩;obtain⟨db,q,b,r,_⟩:=a.ids id _ d l rfl;cases db<;>simp only[cX] at b;simp_all
theorem gI.step(a:Step X X'):∀{b:List KV} {vs:Bb},gI X b vs->gI X' b vs
 | [],[],_=>True.intro
 | _::_,_::_,h=>⟨h.1.step a,gI.step a h.2⟩
 | [],_::_,h=>h.elim
 | _::_,[],h=>h.elim
theorem cJ.step(e:Step X X'){x:CV}{v:Value}(h:cJ X x v):cJ X' x v:=by
 cases x<;>simp only[cJ] at h ⊢
 case p=>exact dO.kept e.kept h
 case own id m len =>
  obtain⟨d,l,q⟩:=h;refine⟨iv d e.len,l,λk y D r=>?_⟩;obtain⟨db,s,b,t,z⟩:=e.ids id _ d r rfl;cases db<;>simp only[cX] at b;obtain⟨rfl,B⟩:=b;obtain⟨A,C⟩:=q _ _ _ s;rw[t];refine⟨qd,?_⟩
  cases E:X.G id with
  | none=>simp_all
  | some g =>
   rcases z g E with⟨I,J,f1,L,M,f2,F,N,O⟩|⟨_,_,_,_,F,_⟩;rotate_left 1
   .simp_all
   grind
 case ptr id m =>
  obtain⟨d,l,q⟩:=h;refine⟨iv d e.len,l,λcells r=>?_⟩;obtain⟨db,s,b,t,_⟩:=e.ids id _ d r rfl;cases db<;>simp only[cX] at b;simp_all
 case aptr id i j =>
  obtain⟨d,l,q⟩:=h;refine⟨iv d e.len,l,λk y D r=>?_⟩;obtain⟨db,s,b,t,_⟩:=e.ids id _ d r rfl;cases db<;>simp only[cX] at b;grind
 case bs id n =>
  obtain⟨d,l,q⟩:=h;refine⟨iv d e.len,l,λcells r=>?_⟩;obtain⟨db,s,b,t,_⟩:=e.ids id _ d r rfl;cases db<;>simp only[cX] at b;simp_all
 case mp id =>
  obtain⟨d,l,q⟩:=h;refine⟨iv d e.len,l,λy r=>?_⟩;obtain⟨db,s,b,t,_⟩:=e.ids id _ d r rfl;cases db<;>simp only[cX] at b;simp_all
 case eptr cs =>
  obtain⟨u,m,d,l,q⟩:=h;exact⟨u,m,d,(e.kept u l).1,jC.kept e.kept l q⟩
 case full k y =>
  obtain⟨a,d,l⟩:=h;refine⟨a,d,l.imp id ?_⟩;rintro⟨u,m,q,A,C⟩;exact⟨u,m,q,(e.kept u A).1,hD.kept e.kept A C⟩
 case clo f H =>
  obtain⟨vs,d,l⟩:=h;exact⟨vs,d,l.step e⟩
theorem bP.step(a:Step X X'):∀{b:Bf} {vs:Bb},bP X b vs->bP X' b vs
 | [],[],_=>True.intro
 | _::_,_::_,h=>⟨h.1.step a,bP.step a h.2⟩
 | [],_::_,h=>h.elim
 | _::_,[],h=>h.elim
theorem fK.step(a:Step X X'){x:EV}{v:Value}(h:fK X x v):fK X' x v:=by
 cases x<;>simp only[fK] at h ⊢
 case c=>exact h.step a
 case agg=>obtain⟨vs,b,d⟩:=h;exact⟨vs,b,d.step a⟩
theorem cY.step(a:Step X X'):∀{b:Bj} {vs:Bb},cY X b vs->cY X' b vs
 | [],[],_=>True.intro
 | _::_,_::_,h=>⟨h.1.step a,cY.step a h.2⟩
 | [],_::_,h=>h.elim
 | _::_,[],h=>h.elim
theorem bH.step(a:Step X X'){x:DV}{v:Value}(h:bH X x v):bH X' x v:=by
 cases x<;>simp only[bH] at h ⊢
 case c=>exact h.step a
 case agg=>obtain⟨vs,b,d⟩:=h;exact⟨vs,b,d.step a⟩
 case tup=>obtain⟨vs,b,d⟩:=h;exact⟨vs,b,d.step a⟩
theorem eC.step(a:Step X X'):∀{b:Bi} {vs:Bb},eC X b vs->eC X' b vs
 | [],[],_=>True.intro
 | _::_,_::_,h=>⟨h.1.step a,eC.step a h.2⟩
 | [],_::_,h=>h.elim
 | _::_,[],h=>h.elim
theorem Step.trans{Y Z:Ctx}(H:HInv Y)(h:Step X Y)(k:Step Y Z):Step X Z where
 size:=bj h.size k.size
 os:=k.os.trans h.os
 tape:=k.tape.trans h.tape
 output:=h.output.trans k.output
 kept:=h.kept.trans k.kept
 len:=bj h.len k.len
 ids:=λid z hid I l=>by
  obtain⟨db,m,v,p,A⟩:=k.ids id z (iv hid h.len) I l;obtain⟨d,B,x,a,y⟩:=h.ids id db hid m v.live;exact⟨d,B,x.trans v,p.trans a,λg G=>(y g G).trans (A g (a.trans G))⟩
 frame:=λb q C=>by
  refine(k.frame b (iv q h.size) λid db g m l u p=>?_).trans (h.frame b q C);rcases h.mine id db g m l u p with e|⟨r,d,D,E,s,t,a,F⟩
  .omega
  .grind
 mine:=λid db g m l u p=>by
  rcases k.mine id db g m l u p with e|⟨r,d,D,E,s,t,a,F⟩
  .exact .inl (bj h.size e)
  .rcases h.mine r d D E s t a with e|⟨J,L,W,h1,M,N,O,U⟩
   .omega
   .grind
 upper:=λb q=>by
  rcases k.upper b q with q|q|⟨id,db,g,m,l,p,F⟩
  .exact h.upper b q
  .exact .inr (.inl (bj h.size q))
  .by_cases u:db.fix=false
   .rcases h.mine id db g m l u p with e|⟨r,d,D,E,s,t,a,V⟩
    .omega
    .grind
   .exact h.upper b (F▸(H.own id db g m l p).2 (by simpa using u))
end
section
variable {X X':Ctx}{id i j:Nat}{db d0:DB}{o:Obj}{vs:Bb}{g:Nat × Nat}
theorem cR.at_{bl:Nat}:∀{cs:Bf} {off j:Nat} {c:CV},cR X bl off cs->cs[j]?=some c->∃v,X.w.cell? ⟨bl,off+j,none⟩=some v/\cJ X c v
 | [],_,_,_,_,h=>by simp_all
 | c::cs,off,0,d,h,a=>by grind [cR]
 | c::cs,off,j+1,d,h,a=>by
  obtain⟨v,b,e⟩:=cR.at_ h.2 a;grind
theorem cR.mk{bl:Nat}:∀{cs:Bf} {off:Nat},(∀j c,cs[j]?=some c->∃v,X.w.cell? ⟨bl,off+j,none⟩=some v/\cJ X c v)->cR X bl off cs
 | [],_,_=>by grind [cR]
 | c::cs,off,h=>by
  refine⟨by simpa using h 0 c rfl,cR.mk λj d a=>?_⟩
  obtain⟨v,b,e⟩:=h (j+1) d (by simpa using a);grind
theorem bP.length: ∀{a:Bf} {vs:Bb},bP X a vs->a.length=vs.length
 | [],[],_=>rfl
 | _::_,_::_,h=>by simp[bP.length h.2]
 | [],_::_,h=>h.elim
 | _::_,[],h=>h.elim
theorem bP.at_: ∀{b:Bf} {vs:Bb} {j:Nat} {c:CV},bP X b vs->b[j]?=some c->∃v,vs[j]?=some v/\cJ X c v
 | [],[],_,_,_,a=>by simp_all
 | c::b,v::vs,0,d,h,a=>by
  simp only[eu,b0] at a;subst a;exact⟨v,rfl,h.1⟩
 | c::b,v::vs,j+1,d,h,a=>by
  simp only[fp] at a ⊢;exact bP.at_ h.2 a
 | [],_::_,_,_,h,_=>h.elim
 | _::_,[],_,_,h,_=>h.elim
theorem bP.mk: ∀{a:Bf} {vs:Bb},a.length=vs.length->(∀(j:Nat) (c:CV) (v:Value),a[j]?=some c->vs[j]?=some v->cJ X c v)->bP X a vs
 | [],[],_,_=>True.intro
 | c::a,v::vs,b,h=>⟨h 0 c v rfl rfl,bP.mk (by simpa using b) λj d u e k=>h (j+1) d u (by simpa using e) (by simpa using k)⟩
 | [],_::_,b,_=>by simp_all
 | _::_,[],b,_=>by simp_all
theorem bP.oneCell: ∀{b:Bf} {vs:Bb},bP X b vs->∀v∈vs,v.oneCell'=true
 | [],[],_,_,h=>by simp at h
 | _::_,_::_,h,v,a=>by
  rcases bx.1 a with rfl|a
  .exact sI h.1
  .exact bP.oneCell h.2 v a
 | [],_::_,h,_,_=>h.elim
 | _::_,[],h,_,_=>h.elim
theorem cR.move(b:Step X X'){bl:Nat}(d:X'.w.heap[bl]?=X.w.heap[bl]?){off:Nat}{cs:Bf}(h:cR X bl off cs):cR X' bl off cs :=
 cR.mk λj c e=>by
  obtain⟨v,k,l⟩:=h.at_ e;exact⟨v,by rw[World.cell?_of_block (a:=⟨bl,off+j,none⟩) d];exact k,l.step b⟩
theorem fI.move(m:Step X X')(l:X'.G id=X.G id)(b:∀g,X.G id=some g->X'.w.heap[g.1]?=X.w.heap[g.1]?)(h:fI X id db):fI X' id db:=by
 cases db<;>simp only[fI] at h ⊢
 case box =>
  obtain⟨g,arr,p,fz,a,d,e,k,q⟩:=h;exact⟨g,arr,p,fz,l.trans a,(b g a).trans d,e,k,q.move m (b g a)⟩
 case arr =>
  rcases h with h|⟨g,arr,p,fz,a,d,e,k,q⟩
  .exact .inl ⟨l.trans h.1,h.2⟩
  .exact .inr ⟨g,arr,p,fz,l.trans a,(b g a).trans d,e,k,q.move m.kept (b g a)⟩
 case mp =>
  obtain⟨g,r,c,a,d,e,k⟩:=h;exact⟨g,r,c,l.trans a,(b g a).trans d,e.kept m.kept,k⟩
structure Alike (w w':World):Prop where
 heap:w'.heap=w.heap
 os:w'.os=w.os
 tape:w'.tape=w.tape
 output:wP w w'
def Ctx.at_(X:Ctx)(w':World):Ctx:=⟨w',X.S,X.G,X.h⟩
theorem Step.alike(hi:HInv X){w':World}(a:Alike X.w w'):Step X (X.at_ w') where
 size:=by simp only[Ctx.at_,a.heap];exact bg _
 os:=a.os
 tape:=a.tape
 output:=a.output
 kept:=λb l=>⟨l,by simp only[Ctx.at_,a.heap]⟩
 len:=bg _
 ids:=λid d _ h e=>⟨d,h,cX.refl e,rfl,λg k=>by
  simp only[Ctx.at_,a.heap];exact(hi.blk id d h).same e g k⟩
 frame:=λb _ _=>by simp only[Ctx.at_,a.heap]
 mine:=λid db g h e m k=>.inr ⟨id,db,g,h,e,m,k,rfl⟩
 upper:=λ_ h=>.inl h
theorem HInv.alike(hi:HInv X){w':World}(a:Alike X.w w'):HInv (X.at_ w') where
 slt:=λb d=>by simp only[Ctx.at_,a.heap];exact hi.slt b d
 blk:=λid db h=>(hi.blk id db h).move (Step.alike hi a) rfl λg _=>by simp only[Ctx.at_,a.heap]
 own:=hi.own
 inj:=hi.inj
structure Grew (w w':World) (o:Obj):Prop where
 heap:w'.heap=w.heap.push o
 os:w'.os=w.os
 tape:w'.tape=w.tape
 output:wP w w'
theorem Grew.old{w w':World}(h:Grew w w' o){b:Nat}(a:b<w.heap.size):w'.heap[b]?=w.heap[b]? := by
 rw[h.heap,o9,au qd]
theorem Grew.new{w w':World}(h:Grew w w' o):w'.heap[w.heap.size]?=some o:=by
 rw[h.heap,o9,aw rfl]
theorem Grew.size{w w':World}(h:Grew w w' o):w'.heap.size=w.heap.size+1:=by rw[h.heap,Array.size_push]
def Ctx.push(X:Ctx)(w':World)(db:DB):Ctx:=⟨w',X.S,λid=>if id=X.h.length then some (X.w.heap.size,0) else X.G id,X.h++[db]⟩
theorem rB{α:Type}{l:List α}{x:α}(h:i<l.length):(l++[x])[i]?=l[i]? := by grind
theorem cE{α:Type}{l:List α}{x y:α}(h:(l++[x])[i]?=some y):(i<l.length/\l[i]?=some y)∨(i=l.length/\y=x):=by grind
theorem Step.push(hi:HInv X){w':World}(a:Grew X.w w' o)(db:DB):Step X (X.push w' db) where
 size:=by simp only[Ctx.push,a.size];omega
 os:=a.os
 tape:=a.tape
 output:=a.output
 kept:=λb k=>⟨k,a.old (hi.slt b k)⟩
 len:=rb
 ids:=λid e hid h l=>by
  simp only[Ctx.push] at h ⊢;rw[rB hid] at h;refine⟨e,h,cX.refl l,by rw[au qd],λg m=>?_⟩
  rw[a.old (hi.block_lt h l m)];exact(hi.blk id e h).same l g m
 frame:=λb k _=>a.old k
 mine:=λid d g h l p m=>by
  grind [Ctx.push]
 upper:=λ_ h=>.inl h
theorem HInv.push(hi:HInv X){w':World}(r:Grew X.w w' o)(s:fI (X.push w' db) X.h.length db)(C:db.fix=false):HInv (X.push w' db) where
 slt:=λb s=>by have:=hi.slt b s;simp only[Ctx.push,r.size];omega
 blk:=λid d h=>by
  rcases cE h with⟨m,k⟩|⟨rfl,rfl⟩
  .by_cases l:d.live=true
   .exact(hi.blk id d k).move (Step.push hi r db) (by simp only[Ctx.push];rw[au qd]) λg a=>r.old (hi.block_lt k l a)
   .cases d<;>simp_all[DB.live,fI]
  .exact s
 own:=λid d g h l a=>by
  simp only[Ctx.push] at h a ⊢;rcases cE h with⟨m,k⟩|⟨rfl,rfl⟩
  .rw[au qd] at a;exact hi.own id d g k l a
  .rw[aw rfl] at a;cases a;refine⟨λ_ y=>?_,λh=>?_⟩
   .have:=hi.slt _ y;simp at this
   .simp_all
 inj:=λid d t z g A h l u k p a e B=>by
  simp only[Ctx.push] at h a k e;rcases cE h with⟨m,v⟩|⟨rfl,rfl⟩<;>rcases cE k with⟨x,q⟩|⟨rfl,rfl⟩
  .rw[au qd] at a e;exact hi.inj id d t z g A v l u q p a e B
  .rw[au qd] at a;rw[aw rfl] at e;cases e;have:=hi.block_lt v l a;omega
  .rw[au qd] at e;rw[aw rfl] at a;cases a;have:=hi.block_lt q p e;omega
  .rfl
def Ctx.kill(X:Ctx)(id:Nat):Ctx:=⟨X.w,X.S,X.G,X.h.set id .dead⟩
theorem mX(h:(X.h.set id .dead)[i]?=some db)(a:db.live=true):i≠id/\X.h[i]?=some db:=by grind [DB.live]
theorem Step.kill(hi:HInv X)(id:Nat):Step X (X.kill id) where
 size:=bg _
 os:=rfl
 tape:=rfl
 output:=wP.rfl'
 kept:=uK.refl _ _
 len:=by simp[Ctx.kill]
 ids:=λi b _ h a=>by
  obtain⟨_,d⟩:=mX h a;exact⟨b,d,cX.refl a,rfl,(hi.blk i b d).same a⟩
 frame:=λ_ _ _=>rfl
 mine:=λi db g h a e k=>by
  obtain⟨_,d⟩:=mX h a;exact .inr ⟨i,db,g,d,a,e,k,rfl⟩
 upper:=λ_ h=>.inl h
theorem HInv.kill(hi:HInv X)(id:Nat):HInv (X.kill id) where
 slt:=hi.slt
 blk:=λi db h=>by
  by_cases a:db.live=true
  .obtain⟨_,b⟩:=mX h a;exact(hi.blk i db b).move (Step.kill hi id) rfl λ_ _=>rfl
  .grind [DB.live,fI]
 own:=λi db g h a k=>by
  obtain⟨_,b⟩:=mX h a;exact hi.own i db g b a k
 inj:=λi d q r g s h a l b e k m t=>by
  obtain⟨_,u⟩:=mX h a;obtain⟨_,p⟩:=mX b e;exact hi.inj i d q r g s u a l p e k m t
structure Wrote (w w':World) (bl off:Nat) (vs:Bb):Prop where
 os:w'.os=w.os
 tape:w'.tape=w.tape
 output:wP w w'
 size:w'.heap.size=w.heap.size
 other:∀b,b≠bl->w'.heap[b]?=w.heap[b]?
 here:∃arr el fz arr',w.heap[bl]?=some (.cells arr el fz)/\w'.heap[bl]?=some (.cells arr' el fz)/\arr'.size=arr.size /\
  ∀j:Nat,arr'[j]?=if off<=j/\j<off+vs.length then vs[j-off]? else arr[j]?
theorem Wrote.cell_in{w w':World}{bl off:Nat}(h:Wrote w w' bl off vs)(h1:off<=j)(b:j<off+vs.length):w'.cell? ⟨bl,j,none⟩=vs[j-off]? := by
 obtain⟨arr,d,fz,a,e,k,l,m⟩:=h.here;grind [World.cell?]
theorem Wrote.cell_out{w w':World}{bl off:Nat}(h:Wrote w w' bl off vs){b:Nat}(k:b≠bl∨j<off∨off+vs.length<=j):w'.cell? ⟨b,j,none⟩=w.cell? ⟨b,j,none⟩:=by
 by_cases d:b=bl
 .subst d;obtain⟨arr,l,fz,e,m,d,p,q⟩:=h.here;grind [World.cell?]
 .exact World.cell?_of_block (a:=⟨b,j,none⟩) (h.other b d)
def splice{α:Type}(cells:List α)(off:Nat)(a:List α):List α:=cells.take off++a++cells.drop (off+a.length)
theorem jS{α:Type}(cells:List α)(off:Nat)(a:List α)(h:off+a.length<=cells.length):(splice cells off a).length=cells.length:=by grind [splice]
theorem pM{α:Type}(cells:List α)(off:Nat)(a:List α)(h:off+a.length<=cells.length)(j:Nat):
  (splice cells off a)[j]?=if off<=j/\j<off+a.length then a[j-off]? else cells[j]? := by
 unfold splice;by_cases b:j<off
 .grind
 .grind
def Ctx.put(X:Ctx)(w':World)(id:Nat)(db:DB):Ctx:=⟨w',X.S,X.G,X.h.set id db⟩
theorem cM{l:aF}{d:DB}(h:(l.set id d)[i]?=some db):(i=id/\db=d/\i<l.length)∨(i≠id/\l[i]?=some db):=by grind
structure Touched (w w':World) (bl:Nat):Prop where
 os:w'.os=w.os
 tape:w'.tape=w.tape
 output:wP w w'
 size:w'.heap.size=w.heap.size
 other:∀b,b≠bl->w'.heap[b]?=w.heap[b]?
 here:yP (w.heap[bl]?) (w'.heap[bl]?)
theorem Wrote.touched{w w':World}{bl off:Nat}(h:Wrote w w' bl off vs):Touched w w' bl :=
 ⟨h.os,h.tape,h.output,h.size,h.other,by obtain⟨arr,b,fz,a,d,e,k,_⟩:=h.here;exact .inl ⟨arr,b,fz,a,b,fz,d,e,k⟩⟩
theorem Step.put(hi:HInv X){w':World}{d:DB}(r:X.h[id]?=some d0)(k:d0.live=true)(l:d0.fix=false)(v:X.G id=some g)
 (m:Touched X.w w' g.1)(x:cX d0 d)(B:d.fix=false):Step X (X.put w' id d) where
 size:=by simp only[Ctx.put,m.size];exact bg _
 os:=m.os
 tape:=m.tape
 output:=m.output
 kept:=λb A=>⟨A,m.other b λe=>(hi.own id d0 g r k v).1 l (e▸A)⟩
 len:=by simp[Ctx.put]
 ids:=λi q _ h s=>by
  rcases cM h with⟨rfl,rfl,_⟩|⟨t,u⟩
  .refine⟨d0,r,x,rfl,λp a=>?_⟩;rw[v] at a;cases a;exact m.here
  .refine⟨q,u,cX.refl s,rfl,λp a=>?_⟩;rw[show (X.put w' id d).w.heap[p.1]?=X.w.heap[p.1]? from m.other _ λe=>t (hi.inj id d0 i q g p r k l u s v a e.symm).symm]
   exact(hi.blk i q u).same s p a
 frame:=λb _ y=>m.other b λe=>y id d0 g r k l v e.symm
 mine:=λi db p h s z a=>by
  rcases cM h with⟨rfl,rfl,_⟩|⟨t,u⟩
  .exact .inr ⟨i,d0,p,r,k,l,a,rfl⟩
  .exact .inr ⟨i,db,p,u,s,z,a,rfl⟩
 upper:=λ_ h=>.inl h
theorem HInv.put(hi:HInv X){w':World}{d:DB}(u:X.h[id]?=some d0)(a:d0.live=true)(l:d0.fix=false)(I:X.G id=some g)
 (B:Touched X.w w' g.1)(C:cX d0 d)(J:d.fix=false)(D:fI (X.put w' id d) id d):HInv (X.put w' id d) where
 slt:=λb D=>by have:=hi.slt b D;simp only[Ctx.put,B.size];exact this
 blk:=λi db h=>by
  rcases cM h with⟨rfl,rfl,_⟩|⟨p,s⟩
  .exact D
  .by_cases t:db.live=true
   .exact(hi.blk i db s).move (Step.put hi u a l I B C J) rfl λA m=>B.other _ λe=>p (hi.inj id d0 i db g A u a l s t I m e.symm).symm
   .grind [DB.live,fI]
 own:=λi db A h t m=>by
  rcases cM h with⟨rfl,rfl,_⟩|⟨p,s⟩
  .have:=hi.own i d0 A u a m;rw[l] at this;rw[J];exact this
  .exact hi.own i db A s t m
 inj:=λi d1 E v F q h t x s y r k H=>by
  rcases cM h with⟨rfl,rfl,_⟩|⟨p,L⟩<;>rcases cM s with⟨rfl,rfl,_⟩|⟨M,z⟩
  .rfl
  .exact hi.inj i d0 E v F q u a l z y r k H
  .exact hi.inj i d1 E d0 F q L t x u a r k H
  .exact hi.inj i d1 E v F q L t x z y r k H
theorem zFv(hi:HInv X){w':World}{off:Nat}{cells b:Bf}(q:X.h[id]?=some (.box cells))(m:X.G id=some g)
 (d:off+b.length<=cells.length)(u:bP X b vs)(e:Wrote X.w w' g.1 (g.2+off) vs):
  Step X (X.put w' id (.box (splice cells off b)))/\HInv (X.put w' id (.box (splice cells off b))):=by
 have x:=u.length;have r:Step X (X.put w' id (.box (splice cells off b))):=Step.put hi q rfl rfl m e.touched True.intro rfl;refine⟨r,HInv.put hi q rfl rfl m e.touched True.intro rfl ?_⟩;have y:=hi.blk id _ q;simp only[fI] at y ⊢;obtain⟨N,arr,D,fz,z,E,F,H,I⟩:=y;rw[m] at z;cases z;obtain⟨A,J,L,k,B,s,l,O⟩:=e.here;rw[E] at B;cases B;refine⟨g,k,D,fz,m,s,by rw[jS _ _ _ d,l];exact F,by rw[l];exact H,cR.mk λj c p=>?_⟩
 rw[pM _ _ _ d] at p;split at p
 .rename_i M;obtain⟨v,t,a⟩:=u.at_ p;refine⟨v,?_,a.step r⟩;show w'.cell? _=_;rw[e.cell_in qd qd,<- t]
  congr 1;omega
 .rename_i C;obtain⟨v,t,a⟩:=I.at_ p;refine⟨v,?_,a.step r⟩;show w'.cell? _=_;rw[e.cell_out qd];exact t
end
section
variable {S:Nat->Prop}{vs:Bb}{i id:Nat}{X:Ctx}{g:Nat × Nat}{news:Bc}
def bV(w:World)(S:Nat->Prop):List PV->Bb->Prop
 | [],[]=>True
 | c::cs,v::vs=>dO w S c v/\bV w S cs vs
 | _,_=>False
theorem bV.length{w:World}:∀{a:List PV} {vs:Bb},bV w S a vs->a.length=vs.length
 | [],[],_=>rfl
 | _::_,_::_,h=>by simp[bV.length h.2]
 | [],_::_,h=>h.elim
 | _::_,[],h=>h.elim
theorem bV.at_{w:World}:∀{b:List PV} {vs:Bb} {j:Nat} {c:PV},bV w S b vs->b[j]?=some c->∃v,vs[j]?=some v/\dO w S c v
 | [],[],_,_,_,a=>by simp_all
 | c::b,v::vs,0,d,h,a=>by
  simp only[eu,b0] at a;subst a;exact⟨v,rfl,h.1⟩
 | c::b,v::vs,j+1,d,h,a=>by
  simp only[fp] at a ⊢;exact bV.at_ h.2 a
 | [],_::_,_,_,h,_=>h.elim
 | _::_,[],_,_,h,_=>h.elim
theorem bV.mk{w:World}:∀{a:List PV} {vs:Bb},a.length=vs.length->(∀(j:Nat) (c:PV) (v:Value),a[j]?=some c->vs[j]?=some v->dO w S c v)->bV w S a vs
 | [],[],_,_=>True.intro
 | c::a,v::vs,b,h=>⟨h 0 c v rfl rfl,bV.mk (by simpa using b) λj d u e k=>h (j+1) d u (by simpa using e) (by simpa using k)⟩
 | [],_::_,b,_=>by simp_all
 | _::_,[],b,_=>by simp_all
theorem bV.kept{w w':World}{S':Nat->Prop}(a:uK w w' S S'):∀{b:List PV} {vs:Bb},bV w S b vs->bV w' S' b vs
 | [],[],_=>True.intro
 | _::_,_::_,h=>⟨h.1.kept a,bV.kept a h.2⟩
 | [],_::_,h=>h.elim
 | _::_,[],h=>h.elim
theorem bV.append{w:World}:∀{a:List PV} {vs:Bb} {b:List PV} {d:Bb},bV w S a vs->bV w S b d->bV w S (a++b) (vs++d)
 | [],[],_,_,_,k=>k
 | _::_,_::_,_,_,h,k=>⟨h.1,bV.append h.2 k⟩
 | [],_::_,_,_,h,_=>h.elim
 | _::_,[],_,_,h,_=>h.elim
theorem bV.oneCell{w:World}:∀{b:List PV} {vs:Bb},bV w S b vs->∀v∈vs,v.oneCell'=true
 | [],[],_,_,h=>by simp at h
 | _::_,_::_,h,v,a=>by
  rcases bx.1 a with rfl|a
  .exact sJ h.1
  .exact bV.oneCell h.2 v a
 | [],_::_,h,_,_=>h.elim
 | _::_,[],h,_,_=>h.elim
theorem jC.vals{w:World}{bl:Nat}:∀{cs:List PV} {off:Nat},jC w S bl off cs->∃vs:Bb,bV w S cs vs/\∀(j:Nat) (v:Value),vs[j]?=some v->w.cell? ⟨bl,off+j,none⟩=some v
 | [],_,_=>⟨[],True.intro,ql⟩
 | c::cs,off,h=>by
  obtain⟨⟨v,e,a⟩,b⟩:=h;obtain⟨vs,d,k⟩:=jC.vals b;refine⟨v::vs,⟨a,d⟩,λj u l=>?_⟩;grind
theorem hD.vals{w:World}{k bl:Nat}:∀{es:Bc} {off:Nat},hD w S k bl off es ->
  ∃vs:Bb,bV w S es.flatten vs/\vs.length=es.length*k/\∀(j:Nat) (v:Value),vs[j]?=some v->w.cell? ⟨bl,off+j,none⟩=some v
 | [],_,_=>⟨[],True.intro,ql,ql⟩
 | e::es,off,h=>by
  obtain⟨⟨l,m⟩,p⟩:=h;obtain⟨vs,d,s⟩:=m.vals;obtain⟨q,r,a,t⟩:=hD.vals p;have b:=d.length;refine⟨vs++q,by simpa using d.append r,by simp[a,<- b,l,ez];omega,λj v u=>?_⟩
  grind
theorem oX{α:Type}{k:Nat}:∀{es:List (List α)} {j c:Nat} {e:List α},(∀e∈es,e.length=k)->es[j]?=some e->c<k->es.flatten[j*k+c]?=e[c]?
 | [],_,_,_,_,h,_=>by simp_all
 | x::es,0,c,e,a,h,b=>by grind
 | x::es,j+1,c,e,a,h,b=>by
  have d:=a x ql;simp only[mo];rw[gv (by rw[d,ez,iy];omega),show (j+1)*k+c-x.length=j*k+c by rw[d,ez,iy];omega]
  exact oX (λe l=>a e (by simp[l])) h b
theorem gG{α:Type}{k:Nat}:∀{es:List (List α)},(∀e∈es,e.length=k)->es.flatten.length=es.length*k
 | [],_=>by simp
 | x::es,h=>by
  have b:=gG (k:=k) (es:=es) λe a=>h e (by simp[a]);grind
theorem hD.of_vals{w:World}{k bl off:Nat}{es:Bc}(l:∀e∈es,e.length=k)(q:bV w S es.flatten vs)
 (r:∀(j:Nat) (v:Value),vs[j]?=some v->w.cell? ⟨bl,off+j,none⟩=some v):hD w S k bl off es :=
 hD.mk λj e m=>by
  have a:=l e (dr m);refine⟨a,jC.mk λc x p=>?_⟩;have b:c<k:=by have:=aR p;omega
  have:=oX l m b;rw[p] at this;obtain⟨v,s,d⟩:=q.at_ this;exact⟨v,by rw[ig];exact r _ v s,d⟩
theorem jA{a k:Nat}(h:i<a):i*k+k<=a * k:=by
 have:=gr k (show i+1<=a from h)
 grind
theorem zFh(hi:HInv X){w':World}{j k:Nat}{es:Bc}{e d:List PV}(A:X.h[id]?=some (.arr k es false))(p:X.G id=some g)
 (J:es[i]?=some e)(q:j+d.length<=e.length)(L:bV X.w X.S d vs)(l:Wrote X.w w' g.1 (g.2+i*k+j) vs):
  Step X (X.put w' id (.arr k (es.set i (splice e j d)) false))/\HInv (X.put w' id (.arr k (es.set i (splice e j d)) false)):=by
 have M:=L.length;have r:cX (.arr k es false) (.arr k (es.set i (splice e j d)) false):=⟨rfl,ql⟩
 have z:Step X (X.put w' id (.arr k (es.set i (splice e j d)) false)):=Step.put hi A rfl rfl p l.touched r rfl
 refine⟨z,HInv.put hi A rfl rfl p l.touched r rfl ?_⟩;have s:=hi.blk id _ A;simp only[fI] at s ⊢;rcases s with s|⟨g',arr,V,fz,N,W,Y,Z,B⟩
 .rw[p] at s;cases s.1
 rw[p] at N;cases N;obtain⟨O,el0,fz0,t,U,C,u,hj⟩:=l.here;rw[W] at U;cases U;refine .inr ⟨g,t,V,fz,p,C,by simpa[u] using Y,by rw[u];exact Z,hD.mk λi' e' m=>?_⟩
 have D:=(B.at_ J).1;rw[mh] at m;split at m
 .rename_i E;subst E;split at m
  .cases m;refine⟨by rw[jS _ _ _ q];exact D,jC.mk λc x b=>?_⟩
   rw[pM _ _ _ q] at b;split at b
   .obtain⟨v,y,a⟩:=L.at_ b;refine⟨v,?_,a.kept z.kept⟩;show w'.cell? _=_;rw[l.cell_in qd qd,<- y]
    congr 1;omega
   .obtain⟨v,y,a⟩:=(B.at_ J).2.at_ b;refine⟨v,?_,a.kept z.kept⟩;show w'.cell? _=_;rw[l.cell_out qd];exact y
  .cases m
 .rename_i F;obtain⟨h6,h7⟩:=B.at_ m;refine⟨h6,jC.mk λc x b=>?_⟩;obtain⟨v,y,a⟩:=h7.at_ b;refine⟨v,?_,a.kept z.kept⟩;show w'.cell? _=_;have hck:=aR b;rw[l.cell_out ?_]
  .exact y
  .right;rcases Nat.lt_or_gt_of_ne F with H|I
   .have:=jA (k:=k) H;omega
   .have:=jA (k:=k) I;omega
theorem zKx(hi:HInv X){w':World}{k lo:Nat}{es:Bc}(C:X.h[id]?=some (.arr k es false))(m:X.G id=some g)(V:lo+news.length<=es.length)
 (D:∀e∈news,e.length=k)(L:bV X.w X.S news.flatten vs)(p:Wrote X.w w' g.1 (g.2+lo*k) vs):
  Step X (X.put w' id (.arr k (es.take lo++(news++es.drop (lo+news.length))) false))/\HInv (X.put w' id (.arr k (es.take lo++(news++es.drop (lo+news.length))) false)):=by
 have M:=L.length;have W:=gG D;have q:(es.take lo++(news++es.drop (lo+news.length))).length=es.length:=by simp;omega
 have r:cX (.arr k es false) (.arr k (es.take lo++(news++es.drop (lo+news.length))) false):=⟨rfl,by rw[q];exact bg _⟩
 have E:Step X (X.put w' id (.arr k (es.take lo++(news++es.drop (lo+news.length))) false)):=Step.put hi C rfl rfl m p.touched r rfl;refine⟨E,HInv.put hi C rfl rfl m p.touched r rfl ?_⟩;have s:=hi.blk id _ C;simp only[fI] at s ⊢;rcases s with s|⟨g',arr,Y,fz,N,Z,h3,h4,h5⟩
 .rw[m] at s;cases s.1
 rw[m] at N;cases N;obtain⟨O,el0,fz0,t,U,F,u,hj⟩:=p.here;rw[Z] at U;cases U;have H:(es.take lo).length=lo:=by simp;omega
 refine .inr ⟨g,t,Y,fz,m,F,by rw[q,u];exact h3,by rw[u];exact h4,hD.mk λb e' a=>?_⟩
 have old:es[b]?=some e'->b<lo∨lo+news.length<=b->e'.length=k/\jC w' (X.put w' id (.arr k (es.take lo++(news++es.drop (lo+news.length))) false)).S g.1 (g.2+b * k) e':=by
  intro a y;obtain⟨h6,h7⟩:=h5.at_ a;refine⟨h6,jC.mk λc x z=>?_⟩;obtain⟨v,I,d⟩:=h7.at_ z;refine⟨v,?_,d.kept E.kept⟩;have A:=aR z;rw[p.cell_out ?_]
  .exact I
  .right;rcases y with y|y
   .have:=jA (k:=k) y;omega
   .have:=gr k y;rw[ez] at this;right;omega
 rcases cc b lo with l|l
 .rw[fu qd,gq,aw l] at a;exact old a (.inl l)
 .rw [gv qd,H] at a;rcases cc (b - lo) news.length with B|B
  .rw[fu B] at a;have J:=D e' (dr a);refine⟨J,jC.mk λc x z=>?_⟩;have A:c<k:=by have:=aR z;omega
   have:=oX D a A;rw[z] at this;obtain⟨v,I,d⟩:=L.at_ this;refine⟨v,?_,d.kept E.kept⟩;show w'.cell? _=_;have hml:=jA (k:=k) B;have hik:b * k=lo*k+(b - lo)*k:=by rw[<- ez];congr 1;omega
   rw[p.cell_in qd qd,<- I]
   congr 1;omega
  .rw[gv B,gu] at a;exact old (by rw[<- a];congr 1;omega) (.inr qd)
theorem zC7(hi:HInv X){w':World}{k:Nat}{es:Bc}(B:X.h[id]?=some (.arr k es false))(d:X.G id=some g)
 (C:∀e∈news,e.length=k)(L:bV X.w X.S news.flatten vs)(l:Wrote X.w w' g.1 (g.2+es.length*k) vs)
 (a:∀arr D fz,X.w.heap[g.1]?=some (.cells arr D fz)->g.2+(es.length+news.length)*k<=arr.size):
  Step X (X.put w' id (.arr k (es++news) false))/\HInv (X.put w' id (.arr k (es++news) false)):=by
 have M:=L.length;have Y:=gG C;have m:cX (.arr k es false) (.arr k (es++news) false):=⟨rfl,ql⟩
 have E:Step X (X.put w' id (.arr k (es++news) false)):=Step.put hi B rfl rfl d l.touched m rfl;refine⟨E,HInv.put hi B rfl rfl d l.touched m rfl ?_⟩;have p:=hi.blk id _ B;simp only[fI] at p ⊢;rcases p with p|⟨g',arr,D,fz,N,O,h3,Z,h5⟩
 .rw[d] at p;cases p.1
 rw[d] at N;cases N;obtain⟨U,el0,fz0,q,V,F,r,hj⟩:=l.here;rw[O] at V;cases V;refine .inr ⟨g,q,D,fz,d,F,by simpa[r] using a _ _ _ O,by rw[r];exact Z,hD.mk λH e' s=>?_⟩
 rcases cc H es.length with t|I
 .rw[fu t] at s;obtain⟨h6,h7⟩:=h5.at_ s;refine⟨h6,jC.mk λc x u=>?_⟩;obtain⟨v,A,b⟩:=h7.at_ u;refine⟨v,?_,b.kept E.kept⟩;show w'.cell? _=_;have y:=aR u;have:=jA (k:=k) t;rw[l.cell_out qd];exact A
 .rw[gv I] at s;have J:=C e' (dr s);refine⟨J,jC.mk λc x u=>?_⟩;have y:c<k:=by have:=aR u;omega
  have z:=oX C s y;rw[u] at z;obtain⟨v,A,b⟩:=L.at_ z;refine⟨v,?_,b.kept E.kept⟩;show w'.cell? _=_;have hvl:=aR A;have W:H * k=es.length*k+(H - es.length)*k:=by rw[<- ez];congr 1;omega
  rw[l.cell_in qd qd,<- A]
  congr 1;omega
def Ctx.rebase(X:Ctx)(id:Nat)(g:Nat × Nat)(k:Nat)(es:Bc):Ctx:=⟨X.w,X.S,λi=>if i=X.h.length then some g else X.G i,X.h.set id .dead++[.arr k es false]⟩
theorem dW{k:Nat}{es:Bc}{db:DB}(h:(X.rebase id g k es).h[i]?=some db)(d:db.live=true):
  (i≠id/\i<X.h.length/\X.h[i]?=some db)∨(i=X.h.length/\db=.arr k es false):=by
 rcases cE h with⟨a,b⟩|⟨a,b⟩
 .grind [mX]
 .simp_all
theorem rebase(hi:HInv X){k off:Nat}{es:Bc}(t:X.h[id]?=some (.arr k es false))(u:X.G id=some g)(O:off<=es.length):
  Step X (X.rebase id (g.1,g.2+off*k) k (es.drop off))/\HInv (X.rebase id (g.1,g.2+off*k) k (es.drop off)):=by
 have hid:=aR t;have C:Step X (X.rebase id (g.1,g.2+off*k) k (es.drop off)):=by
  refine⟨bg _,rfl,rfl,wP.rfl',uK.refl _ _,re,λi db I h m=>?_,λ_ _ _=>rfl,λi db z h m U b=>?_,λ_ h=>.inl h⟩
  .rcases dW h m with⟨e,p,q⟩|⟨e,_⟩
   .exact⟨db,q,cX.refl m,qx,(hi.blk i db q).same m⟩
   .omega
  .rcases dW h m with⟨e,p,q⟩|⟨e,p⟩
   .grind [Ctx.rebase]
   .simp only[Ctx.rebase] at b;rw[aw e] at b;cases b;exact .inr ⟨id,_,g,t,rfl,rfl,u,rfl⟩
 refine⟨C,hi.slt,λi db h=>?_,λi db z h m b=>?_,λi d D E F v h m x J r l a A=>?_⟩
 .by_cases m:db.live=true
  .rcases dW h m with⟨e,p,q⟩|⟨e,p⟩
   .exact(hi.blk i db q).move C qx λ_ _=>rfl
   .subst e;subst p;have H:=hi.blk id _ t;rcases H with H|⟨z,arr,L,fz,e,p,q,M,N⟩
    .simp_all
    rw[u] at e;cases e;refine .inr ⟨(g.1,g.2+off*k),arr,L,fz,re,p,?_,M,N.drop off⟩
    have:off*k+(es.length-off)*k=es.length*k:=by rw[<- ez];congr 1;omega
    grind
  .grind [DB.live,fI]
 .rcases dW h m with⟨e,p,q⟩|⟨e,p⟩
  .simp only[Ctx.rebase] at b ⊢;rw[au qd] at b;exact hi.own i db z q m b
  .simp only[Ctx.rebase] at b ⊢;rw[aw e] at b;cases b;subst p;have:=hi.own id _ g t rfl u;exact⟨λ_=>this.1 rfl,λh=>by cases h⟩
 .simp only[Ctx.rebase] at l a;rcases dW h m with⟨e,p,q⟩|⟨e,p⟩<;>rcases dW J r with⟨s,B,y⟩|⟨s,B⟩
  .rw[au qd] at l a;exact hi.inj i d D E F v q m x y r l a A
  .rw[au qd] at l;rw[aw s] at a;cases a;exact absurd (hi.inj i d id _ F g q m x t rfl l u A) e
  .rw[au qd] at a;rw[aw e] at l;cases l;exact absurd (hi.inj id _ D E g v t rfl rfl y r u a A).symm s
  .omega
theorem QX(hi:HInv X){k off len:Nat}{es:Bc}(t:X.h[id]?=some (.arr k es false))(u:X.G id=some g)(I:off+len<=es.length):
  Step X (X.rebase id (g.1,g.2+off*k) k ((es.drop off).take len))/\HInv (X.rebase id (g.1,g.2+off*k) k ((es.drop off).take len)):=by
 have hid:=aR t;have C:Step X (X.rebase id (g.1,g.2+off*k) k ((es.drop off).take len)):=by
  refine⟨bg _,rfl,rfl,wP.rfl',uK.refl _ _,re,λi db J h m=>?_,λ_ _ _=>rfl,λi db z h m U b=>?_,λ_ h=>.inl h⟩
  .rcases dW h m with⟨e,p,q⟩|⟨e,_⟩
   .exact⟨db,q,cX.refl m,qx,(hi.blk i db q).same m⟩
   .omega
  .rcases dW h m with⟨e,p,q⟩|⟨e,p⟩
   .grind [Ctx.rebase]
   .simp only[Ctx.rebase] at b;rw[aw e] at b;cases b;exact .inr ⟨id,_,g,t,rfl,rfl,u,rfl⟩
 refine⟨C,hi.slt,λi db h=>?_,λi db z h m b=>?_,λi d D E F v h m x L r l a A=>?_⟩
 .by_cases m:db.live=true
  .rcases dW h m with⟨e,p,q⟩|⟨e,p⟩
   .exact(hi.blk i db q).move C qx λ_ _=>rfl
   .subst e;subst p;have H:=hi.blk id _ t;rcases H with H|⟨z,arr,M,fz,e,p,q,N,O⟩
    .simp_all
    rw[u] at e;cases e;refine .inr ⟨(g.1,g.2+off*k),arr,M,fz,re,p,?_,N,(O.drop off).take len⟩
    have V:off*k+len*k<=es.length*k:=by rw[<- ez];exact gr _ I
    grind
  .grind [DB.live,fI]
 .rcases dW h m with⟨e,p,q⟩|⟨e,p⟩
  .simp only[Ctx.rebase] at b ⊢;rw[au qd] at b;exact hi.own i db z q m b
  .simp only[Ctx.rebase] at b ⊢;rw[aw e] at b;cases b;subst p;have:=hi.own id _ g t rfl u;exact⟨λ_=>this.1 rfl,λh=>by cases h⟩
 .simp only[Ctx.rebase] at l a;rcases dW h m with⟨e,p,q⟩|⟨e,p⟩<;>rcases dW L r with⟨s,B,y⟩|⟨s,B⟩
  .rw[au qd] at l a;exact hi.inj i d D E F v q m x y r l a A
  .rw[au qd] at l;rw[aw s] at a;cases a;exact absurd (hi.inj i d id _ F g q m x t rfl l u A) e
  .rw[au qd] at a;rw[aw e] at l;cases l;exact absurd (hi.inj id _ D E g v t rfl rfl y r u a A).symm s
  .omega
def Ctx.virt(X:Ctx)(k:Nat):Ctx:=⟨X.w,X.S,λi=>if i=X.h.length then none else X.G i,X.h++[.arr k [] false]⟩
theorem virt(hi:HInv X)(k:Nat):Step X (X.virt k)/\HInv (X.virt k):=by
 have x:Step X (X.virt k):=by
  refine⟨bg _,rfl,rfl,wP.rfl',uK.refl _ _,by simp[Ctx.virt],λi db r h l=>?_,λ_ _ _=>rfl,λi db y h l E b=>?_,λ_ h=>.inl h⟩
  .simp only[Ctx.virt] at h ⊢;rw[rB r] at h;exact⟨db,h,cX.refl l,by rw[au qd],(hi.blk i db h).same l⟩
  .grind [Ctx.virt]
 refine⟨x,hi.slt,λi db h=>?_,λi db y h l b=>?_,λi d A B C s h l t z u m a D=>?_⟩
 .rcases cE h with⟨p,e⟩|⟨p,e⟩
  .exact(hi.blk i db e).move x (by simp only[Ctx.virt];rw[au qd]) λ_ _=>rfl
  .grind [fI,Ctx.virt]
 .simp only[Ctx.virt] at h b;rcases cE h with⟨p,e⟩|⟨p,e⟩
  .rw[au qd] at b;exact hi.own i db y e l b
  .simp_all
 .simp only[Ctx.virt] at h z m a;rcases cE h with⟨p,e⟩|⟨p,e⟩<;>rcases cE z with⟨v,q⟩|⟨v,q⟩
  .rw[au qd] at m a;exact hi.inj i d A B C s e l t q u m a D
  .simp_all
  .simp_all
  .omega
theorem kT{k:Nat}{v:Value}(h:cJ X (.p .nil) v):cJ (X.virt k) (.own X.h.length 0 0) v:=by
 simp only[cJ,dO] at h ⊢;subst h;refine⟨by simp[Ctx.virt],rfl,λk' a b d=>?_⟩
 simp[Ctx.virt]
end
section
variable {h:aF}{id i n:Nat}{db:DB}{X X':Ctx}{c:CV}{R R':Bd}{f:FuncId}{args args':Bi}
def zKn(h:aF)(id:Nat):aF :=
 match h[id]? with
 | some (.arr k a _)=>h.set id (.arr k a true)
 | _=>h
def uM(h:aF):List Nat->aF
 | []=>h
 | id::a=>uM (zKn h id) a
theorem EO(h:aF)(id:Nat):(zKn h id).length=h.length:=by grind [zKn]
theorem vN: ∀(ids:List Nat) (h:aF),(uM h ids).length=h.length
 | [],_=>rfl
 | id::ids,h=>by simp only[uM];rw[vN ids,EO]
theorem oY(b:(zKn h id)[i]?=some db):
  (h[i]?=some db/\(i≠id∨∀k es a,db≠.arr k es a))∨(i=id/\∃k es a,h[i]?=some (.arr k es a)/\db=.arr k es true):=by grind [zKn]
def Ctx.frz(X:Ctx)(id:Nat):Ctx :=
 ⟨X.w,λb=>X.S b∨∃k a d g,X.h[id]?=some (.arr k a d)/\X.G id=some g/\b=g.1,X.G,zKn X.h id⟩
theorem freeze(hi:HInv X)(id:Nat):Step X (X.frz id)/\HInv (X.frz id):=by
 have E:uK X.w (X.frz id).w X.S (X.frz id).S:=λb e=>⟨.inl e,rfl⟩;have A:Step X (X.frz id):=by
  refine⟨bg _,rfl,rfl,wP.rfl',E,by simp[Ctx.frz,EO],λi db F h m=>?_,λ_ _ _=>rfl,λi db u h m t l=>?_,λb e=>?_⟩
  .rcases oY h with⟨a,_⟩|⟨rfl,k,p,q,a,rfl⟩
   .exact⟨db,a,cX.refl m,rfl,(hi.blk i db a).same m⟩
   .exact⟨_,a,⟨rfl,bg _⟩,rfl,(hi.blk i _ a).same rfl⟩
  .rcases oY h with⟨a,_⟩|⟨rfl,k,p,q,a,rfl⟩
   .exact .inr ⟨i,db,u,a,m,t,l,rfl⟩
   .grind [DB.fix]
  .rcases e with e|⟨k,p,q,g,a,r,rfl⟩
   .simp_all
   .exact .inr (.inr ⟨id,_,g,a,rfl,r,rfl⟩)
 refine⟨A,λb e=>?_,λi db h=>?_,λi db u h m l=>?_,λi d C G D v h m x H B y s z=>?_⟩
 .rcases e with e|⟨k,p,q,g,a,r,rfl⟩
  .exact hi.slt b e
  .exact hi.block_lt a rfl r
 .rcases oY h with⟨a,_⟩|⟨rfl,k,p,q,a,rfl⟩
  .exact(hi.blk i db a).move A rfl λ_ _=>rfl
  .have:=(hi.blk i _ a).move A rfl λ_ _=>rfl;grind [fI]
 .rcases oY h with⟨a,r⟩|⟨rfl,k,p,q,a,rfl⟩
  .have:=hi.own i db u a m l;refine⟨λt e=>?_,λt=>.inl (this.2 t)⟩;rcases e with e|⟨k,p,q,g,I,J,z⟩
   .simp_all
   .have:=hi.inj i db id _ u g a m t I rfl l J z;grind
  .exact⟨λt=>by simp[DB.fix] at t,λ_=>.inr ⟨k,p,q,u,a,l,rfl⟩⟩
 .rcases oY h with⟨a,_⟩|⟨rfl,k,p,q,a,rfl⟩
  .rcases oY H with⟨r,_⟩|⟨rfl,k,p,q,r,rfl⟩
   .exact hi.inj i d C G D v a m x r B y s z
   .exact hi.inj i d C _ D v a m x r rfl y s z
  .grind [DB.fix]
def yO(X X':Ctx)(ids:List Nat):Prop:=∀id∈ids,∀k a b g,X.h[id]?=some (.arr k a b)->X.G id=some g->X'.S g.1
theorem kF: ∀(ids:List Nat) {X:Ctx},HInv X->∃X':Ctx,X'.w=X.w/\X'.h=uM X.h ids/\X'.G=X.G/\Step X X'/\HInv X'/\yO X X' ids
 | [],X,d=>⟨X,rfl,rfl,rfl,Step.refl d,d,λid h=>by simp at h⟩
 | id::ids,X,d=>by
  obtain⟨q,b⟩:=freeze d id;obtain⟨X',r,s,t,m,u,v⟩:=kF ids b;refine⟨X',r,s,t,q.trans b m,u,λj e k l x g y p=>?_⟩;rcases bx.1 e with rfl|e
  .exact(m.kept _ (.inr ⟨k,l,x,g,y,p,rfl⟩)).1
  .have:∃a,(X.frz id).h[j]?=some (.arr k l a):=by
    grind [Ctx.frz,zKn]
   obtain⟨a,z⟩:=this;exact v j e k l a g z p
def XW(h:aF):CV->Option PV
 | .p x=>some x
 | .own id a len =>
  match h[id]? with
  | some (.arr k b _)=>some (.sl k ((b.drop a).take len))
  | _=>none
 | _=>none
def zHy: CV->List Nat
 | .own id _ _=>[id]
 | _=>[]
def pvs(h:aF):Bf->Option (List PV)
 | []=>some []
 | c::cs=>match XW h c,pvs h cs with
  | some x,some a=>some (x::a)
  | _,_=>none
def ET: Bf->List Nat
 | []=>[]
 | c::cs=>zHy c++ET cs
theorem qQ(hi:HInv X)(t:Step X X')(A:X'.w=X.w){v:Value}{x:PV}(l:cJ X c v)(e:XW X.h c=some x)(B:yO X X' (zHy c)):dO X'.w X'.S x v:=by
 cases c<;>simp only[XW,reduceCtorEq,b0] at e
 case p=>subst e;simp only[cJ] at l;exact l.kept t.kept
 case own id d len =>
  split at e
  .rename_i k u C m;simp only[b0] at e;subst e;obtain⟨_,_,D⟩:=l;obtain⟨J,y⟩:=D _ _ _ m;have b:((u.drop d).take len).length=len:=by simp;omega
   have q:=hi.blk id _ m;simp only[fI] at q;cases r:X.G id with
   | none =>
    grind [dO]
   | some g =>
    rw[r] at y;obtain⟨s,o,arr,L,fz,M,E,a,F,N,H⟩:=y;rcases q with q|⟨O,_,_,_,z,_,_,_,I⟩
    .simp_all
    rw[r] at z;cases z;refine⟨_,s,by rw[b];exact E,by rw[b];exact F,?_⟩
    rcases a with a|a
    .simp_all
    .exact .inr ⟨g.1,g.2+d*k,by rw[a],B id (by simp[zHy]) k u C g m r,((I.drop d).take len).move t.kept (by rw[A])⟩
  .grind
theorem yO.sub{a b:List Nat}(h:yO X X' a)(d:∀id∈b,id∈a):yO X X' b:=λid hid=>h id (d id hid)
theorem GF(hi:HInv X)(d:Step X X')(e:X'.w=X.w):∀{cs:Bf} {vs:Bb} {b:List PV},bP X cs vs->pvs X.h cs=some b->yO X X' (ET cs)->bV X'.w X'.S b vs
 | [],[],b,_,a,_=>by simp only[pvs,b0] at a;subst a;exact True.intro
 | c::cs,v::vs,b,k,a,l=>by
  simp only[pvs] at a;split at a
  .rename_i x m p q;simp only[b0] at a;subst a;exact⟨qQ hi d e k.1 p (l.sub λid h=>by simp[ET,h]),GF hi d e k.2 q (l.sub λid h=>by simp[ET,h])⟩
  .cases a
 | [],_::_,_,h,_,_=>h.elim
 | _::_,[],_,h,_,_=>h.elim
def zAp(h:aF):CV->Option CV
 | .clo f []=>some (.clo f [])
 | x=>(XW h x).map .p
def zAC(h:aF):DV->Option DV
 | .c x=>(zAp h x).map .c
 | .agg a=>(pvs h a).map λb=>.agg (b.map .p)
 | _=>none
def zRz: DV->List Nat
 | .c x=>zHy x
 | .agg a=>ET a
 | _=>[]
def jI(h:aF):Bi->Option Bi
 | []=>some []
 | d::a=>match zAC h d,jI h a with
  | some x,some b=>some (x::b)
  | _,_=>none
def nN: Bi->List Nat
 | []=>[]
 | d::a=>zRz d++nN a
theorem bP.of_ps: ∀{a:List PV} {vs:Bb},bV X.w X.S a vs->bP X (a.map .p) vs
 | [],[],_=>True.intro
 | _::_,_::_,h=>⟨h.1,bP.of_ps h.2⟩
 | [],_::_,h=>h.elim
 | _::_,[],h=>h.elim
theorem TE{Y:Ctx}(hi:HInv X)(k:Step X X')(l:X'.w=X.w)(b:Y.w=X'.w)(d:Y.S=X'.S){x y:CV}{v:Value}(e:cJ X x v)(a:zAp X.h x=some y)(m:yO X X' (zHy x)):cJ Y y v:=by
 unfold zAp at a;split at a
 .cases a;simp only[cJ] at e ⊢;obtain⟨vs,p,q⟩:=e;refine⟨vs,p,?_⟩;cases vs with
  | nil=>exact True.intro
  | cons _ _=>exact q.elim
 .obtain⟨z,r,rfl⟩:=du.1 a;simp only[cJ];rw[b,d];exact qQ hi k l e r m
theorem TZ{Y:Ctx}(hi:HInv X)(k:Step X X')(l:X'.w=X.w)(a:Y.w=X'.w)(b:Y.S=X'.S){d d':DV}{v:Value}(m:bH X d v)(e:zAC X.h d=some d')(p:yO X X' (zRz d)):bH Y d' v:=by
 cases d<;>simp only[zAC,reduceCtorEq] at e
 case c x =>
  obtain⟨z,q,rfl⟩:=du.1 e;exact TE hi k l a b m q p
 case agg u =>
  obtain⟨y,r,rfl⟩:=du.1 e;obtain⟨vs,s,t⟩:=m;refine⟨vs,s,bP.of_ps ?_⟩;rw[a,b];exact GF hi k l t r p
theorem oU{Y:Ctx}(hi:HInv X)(l:Step X X')(m:X'.w=X.w)(e:Y.w=X'.w)(k:Y.S=X'.S):∀{ds a:Bi} {vs:Bb},eC X ds vs->jI X.h ds=some a->yO X X' (nN ds)->eC Y a vs
 | [],_,[],_,b,_=>by simp only[jI,b0] at b;subst b;exact True.intro
 | d::ds,a,v::vs,p,b,q=>by
  simp only[jI] at b;split at b
  .rename_i x t r s;cases b;exact⟨TZ hi l m e k p.1 r (q.sub λid h=>by simp[nN,h]),oU hi l m e k p.2 s (q.sub λid h=>by simp[nN,h])⟩
  .cases b
 | [],_,_::_,h,_,_=>h.elim
 | _::_,_,[],h,_,_=>h.elim
def Ret(X:Ctx)(R:Bd)(v:Value)(w':World):Prop:=∃d X',X'.w=w'/\HInv X'/\Step X X'/\bH X' d v/\R d X'.h
def SV.pv: SV->PV
 | .i n=>.i .i64 n
 | .s l=>.s l
def SV.val: SV->Value
 | .i n=>.int .i64 n
 | .s l=>.string ⟨l.toArray⟩
theorem SV.rel(w:World)(S:Nat->Prop)(v:SV):dO w S v.pv v.val:=by cases v<;>rfl
def zOF(w:World):Prop:=∀g j v,(zCO g)[j]?=some v->w.cell? ⟨g,j,none⟩=some v.val
def Gnd(P:Program)(X:Ctx):Prop:=∃a:World,(a.ShapedOpen P/\zOF a)/\uK a X.w (λb=>b<a.heap.size) X.S
theorem Gnd.step{P:Program}(h:Gnd P X)(d:Step X X'):Gnd P X' :=
 let ⟨W0,h1,h2⟩:=h
 ⟨W0,h1,λb a=>⟨(d.kept b (h2 b a).1).1,((d.kept b (h2 b a).1).2).trans (h2 b a).2⟩⟩
def aA(P:Program)(f:FuncId)(args:Bi)(h:aF)(R:Bd):Prop :=
 ∀ (X:Ctx) (vals:Bb),X.h=h->HInv X->Gnd P X->eC X args vals ->
  ((callFunc f vals.toArray).run P X.w=.ok (.enter f vals.toArray) X.w/\Calls P f vals.toArray X.w λe a=>∃v,e=.returned v/\Ret X R v a) ∨
  ∃v a,(callFunc f vals.toArray).run P X.w=.ok (.value v) a/\Ret X R v a
theorem Ret.mono{v:Value}{w':World}(h:Ret X R v w')(a:∀d h,R d h->R' d h):Ret X R' v w':=by
 obtain⟨d,X',b,e,k,l,m⟩:=h;exact⟨d,X',b,e,k,l,a _ _ m⟩
theorem aA.mono{P:Program}(m:aA P f args h R)(k:∀d h,R d h->R' d h):aA P f args h R':=by
 intro X vals p q g r;rcases m X vals p q g r with⟨a,b⟩|⟨v,l,a,b⟩
 .exact .inl ⟨a,b.mono λe l ⟨v,s,h⟩=>⟨v,s,h.mono k⟩⟩
 .exact .inr ⟨v,l,a,b.mono k⟩
def KV.sh(n:Nat):KV->KV
 | .p x=>.p x
 | .ptr id a=>.ptr (id+n) a
def CV.sh(n:Nat):CV->CV
 | .p x=>.p x
 | .own id a len=>.own (id+n) a len
 | .ptr id a=>.ptr (id+n) a
 | .aptr id i j=>.aptr (id+n) i j
 | .mp id=>.mp (id+n)
 | .bs id k=>.bs (id+n) k
 | .eptr cs=>.eptr cs
 | .full k d=>.full k d
 | .clo f b=>.clo f (b.map (KV.sh n))
def EV.sh(n:Nat):EV->EV
 | .c x=>.c (x.sh n)
 | .agg a=>.agg (a.map (CV.sh n))
def DV.sh(n:Nat):DV->DV
 | .jk=>.jk
 | .c x=>.c (x.sh n)
 | .agg a=>.agg (a.map (CV.sh n))
 | .tup a=>.tup (a.map (EV.sh n))
def DB.sh(n:Nat):DB->DB
 | .dead=>.dead
 | .box cells=>.box (cells.map (CV.sh n))
 | .arr k a b=>.arr k a b
 | .mp a=>.mp a
theorem DB.sh_live: (db.sh n).live=db.live:=by cases db<;>rfl
theorem DB.sh_fix: (db.sh n).fix=db.fix:=by cases db<;>rfl
def Ctx.join(X Y:Ctx):Ctx:=⟨Y.w,Y.S,λi=>if i<X.h.length then X.G i else Y.G (i-X.h.length),X.h++Y.h.map (DB.sh X.h.length)⟩
theorem zHL{Y:Ctx}(h:i<X.h.length):(X.join Y).h[i]?=X.h[i]? := by grind [Ctx.join]
theorem vT{Y:Ctx}(i:Nat):(X.join Y).h[i+X.h.length]?=(Y.h[i]?).map (DB.sh X.h.length):=by grind [Ctx.join]
theorem mW{Y:Ctx}(h:(X.join Y).h[i]?=some db):(i<X.h.length/\X.h[i]?=some db)∨∃j a,i=j+X.h.length/\Y.h[j]?=some a/\db=a.sh X.h.length:=by
 rcases cc i X.h.length with b|b
 .grind [zHL]
 .obtain⟨j,rfl⟩:∃j,i=j+X.h.length:=⟨i-X.h.length,qd⟩
  grind [vT]
theorem nX{Y:Ctx}(i:Nat):(X.join Y).G (i+X.h.length)=Y.G i:=by grind [Ctx.join]
theorem rO.join{Y:Ctx}{c:KV}{v:Value}(h:rO Y c v):rO (X.join Y) (c.sh X.h.length) v:=by
 cases c<;>simp only[rO,KV.sh] at h ⊢
 case p=>exact h
 case ptr id b =>
  obtain⟨k,d,l⟩:=h;refine⟨qv,d,λcells a=>?_⟩
  rw[vT] at a;obtain⟨db,m,e⟩:=du.1 a;cases db<;>simp only[DB.sh,reduceCtorEq] at e;grind [nX]
theorem gI.join{Y:Ctx}:∀{cs:List KV} {vs:Bb},gI Y cs vs->gI (X.join Y) (cs.map (KV.sh X.h.length)) vs
 | [],[],_=>True.intro
 | _::_,_::_,h=>⟨h.1.join,gI.join h.2⟩
 | [],_::_,h=>h.elim
 | _::_,[],h=>h.elim
theorem cJ.join{Y:Ctx}{v:Value}(h:cJ Y c v):cJ (X.join Y) (c.sh X.h.length) v:=by
 cases c<;>simp only[cJ,CV.sh] at h ⊢
 case p=>exact h
 case eptr=>exact h
 case full=>exact h
 case own id q len =>
  obtain⟨e,b,l⟩:=h;refine⟨qv,b,λk r s a=>?_⟩
  rw[vT] at a;obtain⟨db,m,d⟩:=du.1 a;cases db<;>simp only[DB.sh,reduceCtorEq] at d;cases d;rw[nX];exact l _ _ _ m
 case ptr id q =>
  obtain⟨e,b,l⟩:=h;refine⟨qv,b,λcells a=>?_⟩
  rw[vT] at a;obtain⟨db,m,d⟩:=du.1 a;cases db<;>simp only[DB.sh,reduceCtorEq] at d;grind [nX]
 case aptr id i j =>
  obtain⟨e,b,l⟩:=h;refine⟨qv,b,λk r s a=>?_⟩
  rw[vT] at a;obtain⟨db,m,d⟩:=du.1 a;cases db<;>simp only[DB.sh,reduceCtorEq] at d;grind [nX]
 case bs id n =>
  obtain⟨e,b,l⟩:=h;refine⟨qv,b,λcells a=>?_⟩
  rw[vT] at a;obtain⟨db,m,d⟩:=du.1 a;cases db<;>simp only[DB.sh,reduceCtorEq] at d;grind [nX]
 case mp id =>
  obtain⟨e,b,l⟩:=h;refine⟨qv,b,λr a=>?_⟩
  rw[vT] at a;obtain⟨db,m,d⟩:=du.1 a;cases db<;>simp only[DB.sh,reduceCtorEq] at d;grind [nX]
 case clo f t =>
  obtain⟨vs,e,b⟩:=h;exact⟨vs,e,b.join⟩
theorem bP.join{Y:Ctx}:∀{cs:Bf} {vs:Bb},bP Y cs vs->bP (X.join Y) (cs.map (CV.sh X.h.length)) vs
 | [],[],_=>True.intro
 | _::_,_::_,h=>⟨h.1.join,bP.join h.2⟩
 | [],_::_,h=>h.elim
 | _::_,[],h=>h.elim
theorem fK.join{Y:Ctx}{c:EV}{v:Value}(h:fK Y c v):fK (X.join Y) (c.sh X.h.length) v:=by
 cases c<;>simp only[fK,EV.sh] at h ⊢
 case c=>exact h.join
 case agg=>obtain⟨vs,a,b⟩:=h;exact⟨vs,a,b.join⟩
theorem cY.join{Y:Ctx}:∀{cs:Bj} {vs:Bb},cY Y cs vs->cY (X.join Y) (cs.map (EV.sh X.h.length)) vs
 | [],[],_=>True.intro
 | _::_,_::_,h=>⟨h.1.join,cY.join h.2⟩
 | [],_::_,h=>h.elim
 | _::_,[],h=>h.elim
theorem bH.join{Y:Ctx}{c:DV}{v:Value}(h:bH Y c v):bH (X.join Y) (c.sh X.h.length) v:=by
 cases c<;>simp only[bH,DV.sh] at h ⊢
 case c=>exact h.join
 case agg=>obtain⟨vs,a,b⟩:=h;exact⟨vs,a,b.join⟩
 case tup=>obtain⟨vs,a,b⟩:=h;exact⟨vs,a,b.join⟩
theorem fI.join{Y:Ctx}(h:fI Y id db):fI (X.join Y) (id+X.h.length) (db.sh X.h.length):=by
 cases db<;>simp only[fI,DB.sh] at h ⊢
 case box cells =>
  obtain⟨g,arr,b,fz,d,e,l,m,p⟩:=h;refine⟨g,arr,b,fz,by rw[nX];exact d,e,by simpa using l,m,cR.mk λj c a=>?_⟩
  rw[dv] at a;obtain⟨u,q,rfl⟩:=du.1 a;obtain⟨v,r,s⟩:=p.at_ q;exact⟨v,r,s.join⟩
 case arr k t x =>
  rw[nX];exact h
 case mp t =>
  rw[nX];exact h
def Ctx.bare(X:Ctx):Ctx:=⟨X.w,X.S,λ_=>none,[]⟩
theorem HInv.bare(hi:HInv X):HInv X.bare:=⟨hi.slt,λid db h=>by simp[Ctx.bare] at h,λid db g h=>by simp[Ctx.bare] at h,λid db a b g d h=>by simp[Ctx.bare] at h⟩
theorem Step.join{Y:Ctx}(hi:HInv X)(a:Step X.bare Y):Step X (X.join Y):=by
 have d:∀b,b<X.w.heap.size->Y.w.heap[b]?=X.w.heap[b]? := λb l=>a.frame b l λid db g h=>by simp[Ctx.bare] at h
 refine⟨a.size,a.os,a.tape,a.output,a.kept,by simp[Ctx.join],λi db e h k=>?_,λb l _=>d b l,λi db g h k q m=>?_,λb l=>?_⟩
 .rw[zHL e] at h;refine⟨db,h,cX.refl k,by simp only[Ctx.join];rw[aw e],λg m=>?_⟩
  rw[show (X.join Y).w.heap[g.1]?=X.w.heap[g.1]? from d _ (hi.block_lt h k m)]
  exact(hi.blk i db h).same k g m
 .rcases mW h with⟨e,r⟩|⟨j,p,rfl,r,rfl⟩
  .grind [Ctx.join]
  .rw[nX] at m;rw[DB.sh_live] at k;rw[DB.sh_fix] at q;rcases a.mine j p g r k q m with h|⟨_,_,_,h,_⟩
   .exact .inl h
   .grind [Ctx.bare]
 .rcases a.upper b l with h|h|⟨_,_,_,h,_⟩
  .exact .inl h
  .exact .inr (.inl h)
  .grind [Ctx.bare]
theorem HInv.join{Y:Ctx}(hi:HInv X)(x:Step X.bare Y)(y:HInv Y):HInv (X.join Y):=by
 have z:∀b,b<X.w.heap.size->Y.w.heap[b]?=X.w.heap[b]? := λb u=>x.frame b u λid db g h=>by simp[Ctx.bare] at h
 have B:=Step.join hi x;have A:∀b,Y.S b->X.S b∨X.w.heap.size<=b:=λb u=>by
  rcases x.upper b u with h|h|⟨_,_,_,h,_⟩
  .exact .inl h
  .exact .inr h
  .simp[Ctx.bare] at h
 have C:∀j db g,Y.h[j]?=some db->db.live=true->db.fix=false->Y.G j=some g->X.w.heap.size<=g.1:=λj db g k v J L=>by
  rcases x.mine j db g k v J L with h|⟨_,_,_,h,_⟩
  .exact h
  .simp[Ctx.bare] at h
 refine⟨y.slt,λi db h=>?_,λi db g h m e=>?_,λi d M N g D h m s O p e a E=>?_⟩
 .rcases mW h with⟨q,k⟩|⟨j,l,rfl,k,rfl⟩
  .by_cases m:db.live=true
   .exact(hi.blk i db k).move B (by simp only[Ctx.join];rw[aw q]) λg e=>z _ (hi.block_lt k m e)
   .cases db<;>simp_all[DB.live,fI]
  .exact(y.blk j l k).join
 .rcases mW h with⟨q,k⟩|⟨j,l,rfl,k,rfl⟩
  .simp only[Ctx.join] at e ⊢;rw[aw q] at e;have:=hi.own i db g k m e;refine⟨λs u=>?_,λs=>(x.kept _ (this.2 s)).1⟩;rcases A _ u with v|v
   .simp_all
   .have:=hi.block_lt k m e;omega
  .rw[nX] at e;rw[DB.sh_live] at m;rw[DB.sh_fix];exact y.own j l g k m e
 .rcases mW h with⟨q,k⟩|⟨j,db,rfl,k,rfl⟩<;>rcases mW O with⟨t,r⟩|⟨H,l,rfl,r,rfl⟩
  .simp only[Ctx.join] at e a;rw[aw q] at e;rw[aw t] at a;exact hi.inj i d M N g D k m s r p e a E
  .simp only[Ctx.join] at e;rw[aw q] at e;rw[nX] at a;rw[DB.sh_live] at p;exfalso;have u:=hi.block_lt k m e;by_cases F:l.fix=false
   .grind
   .have I:=(y.own H l D r p a).2 (by simpa using F);rw[<- E] at I;rcases A _ I with v|v
    .exact(hi.own i d g k m e).1 s v
    .omega
  .rw[nX] at e;simp only[Ctx.join] at a;rw[aw t] at a;rw[DB.sh_live] at m;rw[DB.sh_fix] at s;have u:=hi.block_lt r p a;grind
  .rw[nX] at e a;rw[DB.sh_live] at m p;rw[DB.sh_fix] at s;have:=y.inj j db H l g D k m s r p e a E;omega
theorem aA.frame{P:Program}(h:aF)(C:jI h args=some args')(D:aA P f args' [] R):
  aA P f args h λd u=>∃d0 q,R d0 q/\d=d0.sh h.length/\u=uM h (nN args)++q.map (DB.sh h.length):=by
 intro X vals t z E F;subst t;obtain⟨a,A,t,L,l,b,x⟩:=kF (nN args) z;have y:eC a.bare args' vals:=oU (Y:=a.bare) z l A rfl rfl F C x;have k:a.h.length=X.h.length:=by rw[t,vN]
 have r:∀v w',Ret a.bare R v w'->Ret X (λd u=>∃d0 q,R d0 q/\d=d0.sh X.h.length/\u=uM X.h (nN args)++q.map (DB.sh X.h.length)) v w':=by
  rintro v w' ⟨d,Y,m,p,B,G,H⟩;refine⟨d.sh a.h.length,a.join Y,m,HInv.join b B p,l.trans b (Step.join b B),G.join,d,Y.h,H,by rw[k],?_⟩
  show a.h++_=_;rw[k,t]
 have s:a.bare.w=X.w:=A;rcases D a.bare vals rfl b.bare (show Gnd P a from E.step l) y with⟨m,p⟩|⟨v,w',m,p⟩
 .rw[s] at m p;exact .inl ⟨m,p.mono λe w' ⟨v,I,J⟩=>⟨v,I,r v w' J⟩⟩
 .rw[s] at m;exact .inr ⟨v,w',m,r v w' p⟩
def zLS: PV->Bool
 | .sl _ a=>a.isEmpty
 | _=>true
def VS: CV->Bool
 | .p x=>zLS x
 | .clo _ []=>true
 | _=>false
def zHn: EV->Bool
 | .c x=>VS x
 | .agg a=>a.all VS
def VT: DV->Bool
 | .jk=>true
 | .c x=>VS x
 | .agg a=>a.all VS
 | .tup a=>a.all zHn
theorem zHp{w w':World}{S S':Nat->Prop}{x:PV}{v:Value}(a:zLS x=true)(h:dO w S x v):dO w' S' x v:=by
 cases x<;>simp only[zLS] at a<;>simp only[dO] at h ⊢<;>try exact h
 simp_all
theorem EK{Y:Ctx}{x:CV}{v:Value}(a:VS x=true)(h:cJ X x v):cJ Y x v:=by
 unfold VS at a;split at a
 .grind [cJ,zHp]
 .simp only[cJ] at h ⊢;obtain⟨vs,b,d⟩:=h;refine⟨vs,b,?_⟩;cases vs with
  | nil=>exact True.intro
  | cons _ _=>exact d.elim
 .cases a
theorem zD{Y:Ctx}:∀{a:Bf} {vs:Bb},a.all VS=true->bP X a vs->bP Y a vs
 | [],[],_,_=>True.intro
 | _::_,_::_,b,h=>by
  simp only[dz,bn] at b;exact⟨EK b.1 h.1,zD b.2 h.2⟩
 | [],_::_,_,h=>h.elim
 | _::_,[],_,h=>h.elim
theorem zHo{Y:Ctx}{x:EV}{v:Value}(a:zHn x=true)(h:fK X x v):fK Y x v:=by
 cases x<;>simp only[zHn] at a<;>simp only[fK] at h ⊢
 .grind [EK]
 .grind [zD]
theorem KG{Y:Ctx}:∀{a:Bj} {vs:Bb},a.all zHn=true->cY X a vs->cY Y a vs
 | [],[],_,_=>True.intro
 | _::_,_::_,b,h=>by
  simp only[dz,bn] at b;exact⟨zHo b.1 h.1,KG b.2 h.2⟩
 | [],_::_,_,h=>h.elim
 | _::_,[],_,h=>h.elim
theorem zHm{Y:Ctx}{x:DV}{v:Value}(a:VT x=true)(h:bH X x v):bH Y x v:=by
 cases x<;>simp only[VT] at a<;>simp only[bH] at h ⊢
 .grind [EK]
 .grind [zD]
 .grind [KG]
theorem HInv.hold{w':World}(hi:HInv X)(l:X.w.heap.size<=w'.heap.size)(p:w'.os=X.w.os)(q:w'.tape=X.w.tape)(r:wP X.w w')
 (a:∀b,b<X.w.heap.size->w'.heap[b]?=X.w.heap[b]?):Step X ⟨w',X.S,X.G,X.h⟩/\HInv ⟨w',X.S,X.G,X.h⟩:=by
 have m:Step X ⟨w',X.S,X.G,X.h⟩:=by
  refine⟨l,p,q,r,λb d=>⟨d,a b (hi.slt b d)⟩,bg _,λi db s h e=>⟨db,h,cX.refl e,rfl,λg k=>?_⟩,λb d _=>a b d,λi db g h e t k=>.inr ⟨i,db,g,h,e,t,k,rfl⟩,λb d=>.inl d⟩;rw[show w'.heap[g.1]?=X.w.heap[g.1]? from a _ (hi.block_lt h e k)]
  exact(hi.blk i db h).same e g k
 refine⟨m,λb d=>iv (hi.slt b d) l,λi db h=>?_,hi.own,hi.inj⟩;by_cases e:db.live=true
 .exact(hi.blk i db h).move m rfl λg k=>a _ (hi.block_lt h e k)
 .grind [DB.live,fI]
theorem aA.flat{P:Program}(h:aF)(H:jI h args=some args')(x:∀d m,R d m->VT d=true)(I:aA P f args' [] R):
  aA P f args h λd y=>(∃m,R d m)/\y=h:=by
 intro X vals D z J L;subst D;obtain⟨l,E,D,Z,p,A,B⟩:=kF (nN args) z;have C:eC l.bare args' vals:=oU (Y:=l.bare) z p E rfl rfl L H B;have a:l.bare.w=X.w:=E;have q:∀v w',Ret l.bare R v w'->Ret X (λd y=>(∃m,R d m)/\y=X.h) v w':=by
  rintro v w' ⟨d,Y,k,r,s,M,F⟩;have t:=s.size;have u:=s.frame;rw[a] at t u;obtain⟨N,O⟩:=HInv.hold (w':=Y.w) z t (by rw[s.os,a]) (by rw[s.tape,a]) (by rw[<- a];exact s.output) λb U=>u b U λid db g h=>by simp[Ctx.bare] at h
  exact⟨d,⟨Y.w,X.S,X.G,X.h⟩,k,O,N,zHm (x _ _ F) M,⟨_,F⟩,rfl⟩
 rcases I l.bare vals rfl A.bare (show Gnd P l from J.step p) C with⟨k,r⟩|⟨v,w',k,r⟩
 .rw[a] at k r;exact .inl ⟨k,r.mono λe w' ⟨v,V,W⟩=>⟨v,V,q v w' W⟩⟩
 .rw[a] at k;exact .inr ⟨v,w',k,q v w' r⟩
end
section
inductive TK where
 | no|bool|int (k:IntKind)|float|str|ptr (e:Nat)|slice (e:Nat)|array (n e:Nat)|map (k e:Nat)|struct (fs:List (Nat × Nat))|func|iface
structure TI where
 k:TK
 size:Nat
 bytes:Nat
 zero:List PV
abbrev Tab:= Nat->TI
variable {T:Tab}
def TK.agg: TK->Bool
 | .array _ _=>true
 | .struct _=>true
 | _=>false
def jM: PV->Option Value
 | .b x=>some (.bool x)
 | .i k n=>some (.int k n)
 | .s l=>some (.string ⟨l.toArray⟩)
 | .f x=>some (.float .f64 x)
 | .nil=>some (.slice none 0 0)
 | .sl _ _=>none
 | .o x=>if x.oneCell' then some x else none
def kV: Option TypeDesc->TK->Prop
 | some .bool,.bool=>True
 | some (.int k),.int k'=>k=k'
 | some (.float k),.float=>k=.f64
 | some .string,.str=>True
 | some (.pointer e),.ptr a=>e=a
 | some (.slice e),.slice a=>e=a
 | some (.array n e),.array d a=>n=d/\e=a
 | some (.map k e),.map k' a=>k=k'/\e=a
 | some (.struct l),.struct b=>l.toList.map (λf=>(f.type,f.offset))=b
 | some (.func _ _ _),.func=>True
 | some (.interface _),.iface=>True
 | _,_=>False
def zRd(P:Program)(t:Nat)(a:TI):Prop :=
 match a.k with
 | .no=>a.size=0
 | k=>kV (P.underlying t) k/\∃i z,P.info? t=some i/\i.size=a.size/\i.bytes=a.bytes/\i.zero=some z/\a.zero.map jM=z.cells.toList.map some/\a.size=a.zero.length /\
   (k.agg=true->∃cs,z=.agg cs)/\(k.agg=false->a.size=1/\z.oneCell'=true)
def bQ(P:Program)(T:Tab):Prop:=∀t,zRd P t (T t)
def SY: Value->DV
 | .bool x=>.c (.p (.b x))
 | .int k n=>.c (.p (.i k n))
 | .float .f64 x=>.c (.p (.f x))
 | .string s=>.c (.p (.s s.data.toList))
 | .slice none 0 0=>.c (.p .nil)
 | .pointer none=>.c (.p (.o (.pointer none)))
 | .map none=>.c (.p (.o (.map none)))
 | .nilFunc=>.c (.p (.o .nilFunc))
 | .nilIface=>.c (.p (.o .nilIface))
 | _=>.jk
abbrev Fr:= List (Nat × DV)
def look: Fr->Nat->DV
 | [],_=>.jk
 | p::t,i=>if i=p.1 then p.2 else look t i
def evD(t:Fr):Operand->DV
 | .tmp i=>look t i
 | .const v=>SY v
 | .global g=>.c (.p (.o (.pointer (some ⟨g,0,none⟩))))
 | .func f=>.c (.clo f [])
def EV.toDV: EV->DV
 | .c x=>.c x
 | .agg a=>.agg a
def KV.toDV: KV->DV
 | .p x=>.c (.p x)
 | .ptr id a=>.c (.ptr id a)
def oR: DV->Option Bf
 | .c x=>some [x]
 | .agg a=>some a
 | _=>none
def bits(d:BinOp)(k:IntKind)(a b:Int):Int :=
 let x:=BitVec.ofInt k.bits a
 let y:=BitVec.ofInt k.bits b
 match d with
 | .and=>k.wrap (x &&& y).toNat
 | .or=>k.wrap (x ||| y).toNat
 | .xor=>k.wrap (x ^^^ y).toNat
 | .andNot=>k.wrap (x &&& ~~~y).toNat
 | _=>0
def zRC(d:BinOp)(k:IntKind)(a b:Int)(K:PV->Prop):Prop :=
 match d with
 | .add=>K (.i k (k.wrap (a+b)))
 | .sub=>K (.i k (k.wrap (a-b)))
 | .mul=>K (.i k (k.wrap (a*b)))
 | .quo=>b≠0/\K (.i k (k.wrap (a.tdiv b)))
 | .rem=>b≠0/\K (.i k (a.tmod b))
 | .and=>K (.i k (bits .and k a b))
 | .or=>K (.i k (bits .or k a b))
 | .xor=>K (.i k (bits .xor k a b))
 | .andNot=>K (.i k (bits .andNot k a b))
 | .eql=>K (.b (a==b))
 | .neq=>K (.b (a != b))
 | .lss=>K (.b (decide (a<b)))
 | .leq=>K (.b (decide (a<=b)))
 | .gtr=>K (.b (decide (b<a)))
 | .geq=>K (.b (decide (b<=a)))
 | _=>False
def cC: Ba->Ba->Bool:=Op.bytesLess
def zRR(d:BinOp)(a b:Ba)(K:PV->Prop):Prop :=
 match d with
 | .add=>a.length+b.length<=9223372036854775807/\K (.s (a++b))
 | .eql=>K (.b (a==b))
 | .neq=>K (.b (!(a==b)))
 | .lss=>K (.b (cC a b))
 | .leq=>K (.b (cC a b || a==b))
 | .gtr=>K (.b (!(cC a b || a==b)))
 | .geq=>K (.b (!cC a b))
 | _=>False
def ZZ(a b:Nat):Option Ordering:=FloatKind.f64.format.order a b
def zRy(d:BinOp)(a b:Nat)(K:PV->Prop):Prop :=
 match d with
 | .eql=>K (.b (ZZ a b==some .eq))
 | .neq=>K (.b (ZZ a b != some .eq))
 | .lss=>K (.b (ZZ a b==some .lt))
 | .leq=>K (.b (ZZ a b==some .lt || ZZ a b==some .eq))
 | .gtr=>K (.b (ZZ a b==some .gt))
 | .geq=>K (.b (ZZ a b==some .gt || ZZ a b==some .eq))
 | _=>False
def zIo: PV->(Bool->Prop)->Prop
 | .nil,K=>K true
 | .sl _ (_::_),K=>K false
 | .sl _ [],K=>K true/\K false
 | _,_=>False
def TG(op:BinOp)(T:TI)(x y:DV)(K:PV->Prop):Prop :=
 match x,y with
 | .c (.p (.i k a)),.c (.p (.i k' b)) =>
  match op with
  | .shl=>0<=b/\K (.i k (k.wrap (a*2 ^ (min b.toNat k.bits))))
  | .shr=>0<=b/\K (.i k (a.fdiv (2 ^ (min b.toNat k.bits))))
  | op=>k=k'/\zRC op k a b K
 | .c (.p (.s a)),.c (.p (.s b))=>zRR op a b K
 | .c (.p (.f a)),.c (.p (.f b))=>zRy op a b K
 | .c (.p (.b a)),.c (.p (.b b)) =>
  match T.k,op with
  | .bool,.eql=>K (.b (a==b))
  | .bool,.neq=>K (.b (!(a==b)))
  | _,_=>False
 | .c (.p x),.c (.p .nil) =>
  match T.k,op with
  | .slice _,.eql=>zIo x λb=>K (.b b)
  | .slice _,.neq=>zIo x λb=>K (.b (!b))
  | _,_=>False
 | _,_=>False
def zE9(P:Program)(ty:TypeId)(d e:List PV)(b:Bool):Prop:=P.eqGuardType P.depth ty=false /\
 ∀(vx a:Bb) (w:World),d.map jM=vx.map some->e.map jM=a.map some->(Op.equalIn 10000 ty (.agg vx.toArray) (.agg a.toArray)).run P w=.ok b w
def zRu(P:Program)(e:BinOp)(ty:TypeId)(x y:DV)(K:PV->Prop):Prop :=
 ∃a d b,x=.agg (a.map .p)/\y=.agg (d.map .p)/\a.all (λx=>(jM x).isSome)=true/\d.all (λx=>(jM x).isSome)=true/\zE9 P ty a d b/\((e=.eql/\K (.b b))∨(e=.neq/\K (.b (!b))))
def dun(d:UnOp)(x:DV)(K:PV->Prop):Prop :=
 match d,x with
 | .not,.c (.p (.b a))=>K (.b (!a))
 | .neg,.c (.p (.i k a))=>K (.i k (k.wrap (0-a)))
 | .xor,.c (.p (.i k a))=>K (.i k (bits .xor k (if k.signed then -1 else k.max) a))
 | _,_=>False
def yW(T:TI)(h:aF)(a:DV)(K:DV->Prop):Prop :=
 match a with
 | .c (.ptr id b) =>
  match h[id]? with
  | some (.box cells) =>
   if T.k.agg then b+T.size<=cells.length/\K (.agg ((cells.drop b).take T.size))
   else match cells[b]? with
    | some c=>K (.c c)
    | none=>False
  | _=>False
 | .c (.aptr id i j) =>
  match h[id]? with
  | some (.arr k d _) =>
   if T.k.agg then i<d.length/\j+T.size<=k/\K (.agg ((((d.getD i []).drop j).take T.size).map .p))
   else i<d.length/\j<k/\K (.c (.p ((d.getD i []).getD j .nil)))
  | _=>False
 | .c (.eptr cs) =>
  if T.k.agg then T.size<=cs.length/\K (.agg ((cs.take T.size).map .p))
  else match cs with
   | c::_=>K (.c (.p c))
   | []=>False
 | _=>False
def VE(T:TI)(h:aF)(a x:DV)(K:aF->Prop):Prop :=
 match oR x with
 | none=>False
 | some b=>T.size≠0/\b.length=T.size /\
  match a with
  | .c (.ptr id d) =>
   match h[id]? with
   | some (.box cells)=>d+b.length<=cells.length/\K (h.set id (.box (splice cells d b)))
   | _=>False
  | .c (.aptr id i j) =>
   match (uM h (ET b))[id]?,pvs h b with
   | some (.arr k e false),some l=>i<e.length/\j+l.length<=k/\K ((uM h (ET b)).set id (.arr k (e.set i (splice (e.getD i []) j l)) false))
   | _,_=>False
  | _=>False
def TM(T:Tab)(s:Nat)(h:aF)(x:DV)(f:Nat)(K:DV->Prop):Prop :=
 match (T s).k with
 | .struct b =>
  match b[f]? with
  | some (d,a)=>(T d).size≠0 /\
   match x with
   | .c (.ptr id o) =>
    match h[id]? with
    | some (.box _)=>K (.c (.ptr id (o+a)))
    | _=>False
   | .c (.aptr id i j) =>
    match h[id]? with
    | some (.arr _ _ _)=>K (.c (.aptr id i (j+a)))
    | _=>False
   | .c (.eptr cs)=>K (.c (.eptr (cs.drop a)))
   | _=>False
  | none=>False
 | _=>False
def zGn(T:TI)(cells:Bf)(off:Nat)(K:DV->Prop):Prop :=
 T.size≠0/\if T.k.agg then off+T.size<=cells.length/\K (.agg ((cells.drop off).take T.size))
 else match cells[off]? with
  | some c=>K (.c c)
  | none=>False
def DY(T:Tab)(t:Nat)(h:aF)(x i:DV)(K:DV->Prop):Prop :=
 match (T t).k,x,i with
 | .slice e,.c (.p (.sl k b)),.c (.p (.i _ n))=>(T e).size≠0/\(T e).size=k/\0<=n/\n<b.length/\K (.c (.eptr (b.getD n.toNat [])))
 | .slice e,.c (.own id a len),.c (.p (.i _ n)) =>
  match h[id]? with
  | some (.arr k _ _)=>(T e).size≠0/\(T e).size=k/\0<=n/\n<len/\K (.c (.aptr id (a+n.toNat) 0))
  | _=>False
 | .slice e,.c (.bs id len),.c (.p (.i _ n)) =>
  match h[id]? with
  | some (.box _)=>(T e).size=1/\0<=n/\n<len/\K (.c (.ptr id n.toNat))
  | _=>False
 | .array len e,.c (.ptr id a),.c (.p (.i _ n)) =>
  match h[id]? with
  | some (.box _)=>(T e).size≠0/\2<=len/\0<=n/\n<len/\K (.c (.ptr id (a+n.toNat*(T e).size)))
  | _=>False
 | .array len e,.c (.p (.o (.pointer (some ⟨g,0,none⟩)))),.c (.p (.i _ n))=>(T e).size=1/\0<=n/\n<len/\n<(zCO g).length/\K (.c (.eptr [((zCO g).getD n.toNat (.i 0)).pv]))
 | _,_,_=>False
def TU(T:Tab)(t:Nat)(x i:DV)(K:DV->Prop):Prop :=
 match (T t).k,x,i with
 | .str,.c (.p (.s l)),.c (.p (.i _ n))=>0<=n/\n<l.length/\K (.c (.p (.i .u8 (l.getD n.toNat 0).toNat)))
 | .array len e,.agg cells,.c (.p (.i _ n))=>(T e).size≠0/\0<=n/\n<len/\zGn (T e) cells (n.toNat*(T e).size) K
 | _,_,_=>False
def bnd(t:Fr)(o:Option Operand)(d:Int)(K:Int->Prop):Prop :=
 match o with
 | none=>K d
 | some x=>match evD t x with
  | .c (.p (.i _ n))=>K n
  | _=>False
def VD(T:Tab)(ty:Nat)(h:aF)(x:DV)(lo hi:Int->(Int->Prop)->Prop)(K:DV->Prop):Prop :=
 match (T ty).k,x with
 | .str,.c (.p (.s l))=>lo 0 λa=>hi l.length λb=>0<=a/\a<=b/\b<=l.length/\K (.c (.p (.s ((l.take b.toNat).drop a.toNat))))
 | .slice e,.c (.p (.sl k d))=>(T e).size≠0/\(T e).size=k/\lo 0 λa=>hi d.length λb=>0<=a/\a<=b/\b<=d.length/\K (.c (.p (.sl k ((d.take b.toNat).drop a.toNat))))
 | .slice e,.c (.p .nil)=>(T e).size≠0/\lo 0 λa=>hi 0 λb=>0<=a/\a<=b/\b<=0/\K (.c (.p .nil))
 | .slice e,.c (.own id m len) =>
  match h[id]? with
  | some (.arr k _ _)=>(T e).size≠0/\(T e).size=k/\lo 0 λa=>hi len λb=>0<=a/\a<=b/\b<=len/\K (.c (.own id (m+a.toNat) (b.toNat-a.toNat)))
  | _=>False
 | _,_=>False
def zFY(T:Tab)(ty:Nat)(x:DV)(lo hi l:Int->(Int->Prop)->Prop)(K:DV->Prop):Prop :=
 match (T ty).k,x with
 | .slice e,.c (.p (.sl k d))=>(T e).size≠0/\(T e).size=k/\lo 0 λa=>hi (-1) λb=>l (-1) λc=>a=0/\b=c/\0<=b/\b<=d.length/\K (.c (.full k (d.take b.toNat)))
 | _,_=>False
def byteOf: List PV->Option UInt8
 | [.i .u8 n]=>some (UInt8.ofNat n.toNat)
 | _=>none
def bytesOf: Bc->Option Ba
 | []=>some []
 | e::a=>match byteOf e,bytesOf a with
  | some b,some l=>some (b::l)
  | _,_=>none
def bS(l:Ba):Bc:=l.map λb=>[.i .u8 b.toNat]
def EF(h:aF):DV->Option Bc
 | .c (.p .nil)=>some []
 | .c (.p (.sl _ a))=>some a
 | .c (.own id b len) =>
  match h[id]? with
  | some (.arr _ a _)=>some ((a.drop b).take len)
  | _=>none
 | _=>none
def zFV(T:Tab)(src a:Nat)(x:DV)(h:aF)(K:Bd):Prop :=
 match (T src).k,(T a).k,x with
 | .int _,.int k,.c (.p (.i _ n))=>K (.c (.p (.i k (k.wrap n)))) h
 | .str,.str,.c (.p (.s l))=>K (.c (.p (.s l))) h
 | .slice e,.str,x =>
  match (T e).k,EF h x with
  | .int .u8,some d =>
   match bytesOf d with
   | some l=>K (.c (.p (.s l))) h
   | none=>False
  | _,_=>False
 | .str,.slice e,.c (.p (.s l)) =>
  match (T e).k with
  | .int .u8=>(T e).size=1/\l.length<=140737488355328/\K (.c (.own h.length 0 l.length)) (h++[.arr 1 (bS l) false])
  | _=>False
 | .slice e,.slice _,.c (.own id b len) =>
  match h[id]? with
  | some (.arr k _ false)=>src=a/\(T e).k=.int .u8/\0<len/\k=1/\K (.c (.own id b len)) h
  | _=>False
 | _,_,_=>False
def BJ(T:Tab)(a:Nat->Option (Nat × Nat)):Bf->List (Nat × DV)->Option Bf
 | cells,[]=>some cells
 | cells,(i,d)::b =>
  match a i,oR d with
  | some (e,size),some k=>if k.length=size/\e+size<=cells.length then BJ T a (splice cells e k) b else none
  | _,_=>none
def zFU(T:Tab)(t:Nat)(parts:List (Nat × DV))(K:DV->Prop):Prop :=
 match (T t).k with
 | .struct a=>(∀f∈a,(T f.1).size≠0) /\
  match BJ T (λi=>(a[i]?).map λf=>(f.2,(T f.1).size)) ((T t).zero.map .p) parts with
  | some cells=>K (.agg cells)
  | none=>False
 | .array _ e=>(T e).size≠0 /\
  match BJ T (λi=>some (i*(T e).size,(T e).size)) ((T t).zero.map .p) parts with
  | some cells=>K (.agg cells)
  | none=>False
 | _=>False
def cellss: Bi->Option (List Bf)
 | []=>some []
 | d::a=>match oR d,cellss a with
  | some c,some cs=>some (c::cs)
  | _,_=>none
def zOm(h:aF):List Bf->Option Bc
 | []=>some []
 | c::cs=>match pvs h c,zOm h cs with
  | some x,some a=>some (x::a)
  | _,_=>none
def zPD: List Bf->List Nat
 | []=>[]
 | c::cs=>ET c++zPD cs
def DT(T:Tab)(t len:Nat)(parts:List (Nat × DV))(h:aF)(K:Bd):Prop :=
 match (T t).k with
 | .slice e=>0<(T e).size/\(T e).zero.length=(T e).size/\len*(T e).size<=16777216/\parts.map (·.1)=List.range len /\
  match cellss (parts.map (·.2)) with
  | some cs =>
   match zOm h cs with
   | some a=>(∀b∈a,b.length=(T e).size)/\K (.c (.own h.length 0 len)) (uM h (zPD cs)++[.arr (T e).size a false])
   | none=>False
  | none=>False
 | _=>False
def dlen(T:TI)(h:aF)(x:DV)(K:DV->Prop):Prop :=
 match T.k,x with
 | .str,.c (.p (.s l))=>K (.c (.p (.i .i64 l.length)))
 | .slice _,.c (.p (.sl _ a))=>K (.c (.p (.i .i64 a.length)))
 | .slice _,.c (.p .nil)=>K (.c (.p (.i .i64 0)))
 | .slice _,.c (.own id _ len) =>
  match h[id]? with
  | some (.arr _ _ _)=>K (.c (.p (.i .i64 len)))
  | _=>False
 | .array n _,_=>K (.c (.p (.i .i64 n)))
 | _,_=>False
def zCQ: DV->Nat->Bool
 | .c (.own j _ _),id=>j==id
 | _,_=>false
def DQ(T:Tab)(t u:Nat)(d src:DV)(h:aF)(K:Bd):Prop :=
 match (T t).k,(T u).k,EF h src with
 | .slice e,.slice l,some news=>e=l/\0<(T e).size/\(∀x∈news,x.length=(T e).size) /\
  match d with
  | .c (.p .nil)=>news.length*(T e).bytes<=140737488355328/\news.length<=9223372036854775807/\K (.c (.own h.length 0 news.length)) (h++[.arr (T e).size news false])
  | .c (.full k a)=>k=(T e).size/\0<news.length/\(a.length+news.length)*(T e).bytes<=140737488355328/\a.length+news.length<=9223372036854775807/\K (.c (.own h.length 0 (a.length+news.length))) (h++[.arr (T e).size (a++news) false])
  | .c (.own id b len) =>
   match h[id]? with
   | some (.arr k a false) =>
    bif zCQ src id then
     k=(T e).size/\b+len<=a.length/\(len+news.length)*(T e).bytes<=140737488355328/\len+news.length<=9223372036854775807 /\
     K (.c (.own (h.length+1) 0 (len+news.length))) (h.set id .dead++[.dead,.arr k ((a.drop b).take len++news) false])
    else
     k=(T e).size/\b+len=a.length/\(len+news.length)*(T e).bytes<=140737488355328/\len+news.length<=9223372036854775807 /\
     K (.c (.own h.length 0 (len+news.length))) (h.set id .dead++[.arr k (a.drop b++news) false])
   | _=>False
  | _=>False
 | _,_,_=>False
def dmm(lt:Bool)(d:Bi)(K:DV->Prop):Prop :=
 match d with
 | [.c (.p (.i k a)),.c (.p (.i _ b))]=>K (.c (.p (.i k (if lt then (if b<a then b else a) else (if a<b then b else a)))))
 | _=>False
def zF9(T:Tab)(t:Nat)(l c:DV)(h:aF)(K:Bd):Prop :=
 match (T t).k,l,c with
 | .slice e,.c (.p (.i .i64 n)),.c (.p (.i .i64 m))=>0<=n/\n<=m/\m<=9223372036854775807/\m*(T e).bytes<=140737488355328/\0<(T e).size/\(T e).zero.length=(T e).size /\
   K (.c (.own h.length 0 n.toNat)) (h++[.arr (T e).size (List.replicate n.toNat (T e).zero) false])
 | _,_,_=>False
def NL: Bi->Option (List KV)
 | []=>some []
 | .c (.p x)::a=>(NL a).map (KV.p x :: ·)
 | .c (.ptr id b)::a=>(NL a).map (KV.ptr id b :: ·)
 | _=>none
def TL(T:Tab)(t:Nat)(d:DV)(h:aF)(K:Bd):Prop :=
 match (T t).k,d with
 | .slice e,.c (.own id a len) =>
  match h[id]? with
  | some (.arr k b false)=>0<(T e).size/\(T e).size=k/\a+len<=b.length/\K (.tup []) (h.set id (.arr k (b.take a++(List.replicate len (T e).zero++b.drop (a+len))) false))
  | _=>False
 | _,_=>False
def zSx: BinOp->DV->DV->Option (Nat × Bool)
 | .eql,.c (.ptr id _),.c (.p (.o (.pointer none)))=>some (id,false)
 | .neq,.c (.ptr id _),.c (.p (.o (.pointer none)))=>some (id,true)
 | _,_,_=>none
def zRj(k:TK)(d:Option DB)(b:Bool)(h:aF)(K:Bd):Prop :=
 match k,d with
 | .ptr _,some (.box _)=>K (.c (.p (.b b))) h
 | _,_=>False
def rI: List (Int × PV)->Int->PV->PV
 | [],_,z=>z
 | e::a,n,z=>if e.1=n then e.2 else rI a n z
def zE3: List (Int × PV)->Int->Bool
 | [],_=>false
 | e::a,n=>if e.1=n then true else zE3 a n
def MP: List (Int × PV)->Int->PV->List (Int × PV)
 | [],n,x=>[(n,x)]
 | e::a,n,x=>if e.1=n then (n,x)::a else e::MP a n x
def TX(k:TK)(h:aF)(K:Bd):Prop :=
 match k with
 | .map _ _=>K (.c (.mp h.length)) (h++[.mp []])
 | _=>False
def zCu(T:Tab)(k:TK)(x:PV):PV :=
 match k,x with
 | .slice e,.nil=>.sl (T e).size []
 | _,x=>x
theorem zP2{k:TK}{n:Nat}{es:Bc}:zCu T k (.sl n es)=.sl n es:=by cases k<;>rfl
theorem zSo{k:TK}{b:Bool}:zCu T k (.b b)=.b b:=by cases k<;>rfl
theorem zSp{k:TK}{j:IntKind}{n:Int}:zCu T k (.i j n)=.i j n:=by cases k<;>rfl
theorem zSq{k:TK}{l:Ba}:zCu T k (.s l)=.s l:=by cases k<;>rfl
theorem zMz{e:Nat}:zCu T (.slice e) .nil=.sl (T e).size []:=rfl
def zR6: TK->Bool
 | .int .i64=>true
 | _=>false
def zF7(T:Tab)(k:TK)(h:aF)(m x:DV)(ok:Bool)(K:DV->Prop):Prop :=
 match k,m,x with
 | .map e a,.c (.mp id),.c (.p (.i .i64 n)) =>
  match h[id]?,(T a).zero with
  | some (.mp d),[z]=>zR6 (T e).k=true/\(T a).k≠.no/\(T a).k.agg=false /\
   match ok with
   | true=>K (.tup [.c (.p (rI d n (zCu T (T a).k z))),.c (.p (.b (zE3 d n)))])
   | false=>K (.c (.p (rI d n (zCu T (T a).k z))))
  | _,_=>False
 | _,_,_=>False
def zGc(T:Tab)(k:TK)(h:aF)(m x v:DV)(K:aF->Prop):Prop :=
 match k,m,x,v with
 | .map a b,.c (.mp id),.c (.p (.i .i64 n)),.c c =>
  match (uM h (zHy c))[id]?,XW h c with
  | some (.mp d),some y=>zR6 (T a).k=true/\K ((uM h (zHy c)).set id (.mp (MP d n (zCu T (T b).k y))))
  | _,_=>False
 | _,_,_,_=>False
def dop(P:Program)(T:Tab)(D:Op)(t:Fr)(h:aF)(K:Bd):Prop :=
 match D with
 | .move x=>K (evD t x) h
 | .assign x=>K (evD t x) h
 | .pick c a b =>
  match evD t c with
  | .c (.p (.b v))=>(v=true->K (evD t a) h)/\(v=false->K (evD t b) h)
  | _=>False
 | .alloc ty =>
  match (T ty).k with
  | .no=>False
  | _=>K (.c (.ptr h.length 0)) (h++[.box ((T ty).zero.map .p)])
 | .box _ x =>
  match oR (evD t x) with
  | some E=>K (.c (.ptr h.length 0)) (h++[.box E])
  | none=>False
 | .build ty parts=>zFU T ty (parts.toList.map λp=>(p.1,evD t p.2)) λd=>K d h
 | .buildSlice ty len parts=>DT T ty len (parts.toList.map λp=>(p.1,evD t p.2)) h K
 | .load ty a=>(T ty).size≠0/\yW (T ty) h (evD t a) λd=>K d h
 | .store ty a x=>VE (T ty) h (evD t a) (evD t x) λz=>K (.tup []) z
 | .nilCheck x =>
  match evD t x with
  | .c (.ptr id u) =>
   match h[id]? with
   | some (.box _)=>K (.c (.ptr id u)) h
   | _=>False
  | .c (.eptr cs)=>K (.c (.eptr cs)) h
  | .c (.clo f r)=>K (.c (.clo f r)) h
  | _=>False
 | .binOp o ty x y _ =>
  match zSx o (evD t x) (evD t y) with
  | some (id,b)=>zRj (T ty).k (h[id]?) b h K
  | none=>(TG o (T ty) (evD t x) (evD t y) λd=>K (.c (.p d)) h)∨zRu P o ty (evD t x) (evD t y) λd=>K (.c (.p d)) h
 | .unOp o _ x=>dun o (evD t x) λd=>K (.c (.p d)) h
 | .convert src A x=>zFV T src A (evD t x) h K
 | .slice ty x B C none=>VD T ty h (evD t x) (bnd t B) (bnd t C) λd=>K d h
 | .slice ty x B C (some F)=>zFY T ty (evD t x) (bnd t B) (bnd t C) (bnd t (some F)) λd=>K d h
 | .fieldAddr s x f=>TM T s h (evD t x) f λd=>K d h
 | .field ty x f =>
  match (T ty).k,evD t x with
  | .struct G,.agg cells =>
   match G[f]? with
   | some (H,u)=>zGn (T H) cells u λd=>K d h
   | none=>False
  | _,_=>False
 | .indexAddr ty x i=>DY T ty h (evD t x) (evD t i) λd=>K d h
 | .index ty x i=>TU T ty (evD t x) (evD t i) λd=>K d h
 | .extract x n =>
  match evD t x with
  | .tup I =>
   match I[n]? with
   | some e=>K e.toDV h
   | none=>False
  | _=>False
 | .makeFunc (.func f) first q =>
  match first.toList,NL (q.toList.map (evD t)) with
  | [],some r=>K (.c (.clo f r)) h
  | _,_=>False
 | .makeSlice ty l c=>zF9 T ty (evD t l) (evD t c) h K
 | .makeMap ty none=>TX (T ty).k h K
 | .lookup ty m x ok=>zF7 T (T ty).k h (evD t m) (evD t x) ok λd=>K d h
 | .mapUpdate ty m x v=>zGc T (T ty).k h (evD t m) (evD t x) (evD t v) λz=>K (.tup []) z
 | .call c =>
  match c.callee with
  | .value f =>
   match evD t f with
   | .c (.clo g r)=>aA P g (c.args.toList.map (evD t)++r.map KV.toDV) h K
   | _=>False
  | .builtin .len =>
   match c.argTypes.toList,c.args.toList with
   | ty::_,[x]=>dlen (T ty) h (evD t x) λd=>K d h
   | _,_=>False
  | .builtin .append =>
   match c.argTypes.toList,c.args.toList with
   | [ty,J],[x,y]=>DQ T ty J (evD t x) (evD t y) h K
   | _,_=>False
  | .builtin .min=>dmm true (c.args.toList.map (evD t)) λd=>K d h
  | .builtin .max=>dmm false (c.args.toList.map (evD t)) λd=>K d h
  | .builtin .clear =>
   match c.argTypes.toList,c.args.toList with
   | [ty],[x]=>TL T ty (evD t x) h K
   | _,_=>False
  | _=>False
 | _=>False
structure DS where
 n:Nat
 t:Fr
 h:aF
abbrev Be:=Exit->DS->Prop
def DS.put(s:DS)(o:Option Tmp)(d:DV)(a:aF):DS :=
 match o with
 | some i=>if i<s.n then ⟨s.n,(i,d)::s.t,a⟩ else ⟨s.n,s.t,a⟩
 | none=>⟨s.n,s.t,a⟩
def lF(P:Program)(T:Tab)(e:Array Oper):List Oper->DS->(DS->Prop)->Prop
 | [],s,K=>K s
 | o::a,s,K =>
  match o.guard with
  | none=>dop P T o.op s.t s.h λd l=>lF P T e a (s.put o.dst d l) K
  | some (j,k) =>
   match ((e[j]?).bind (·.dst)).map (λi=>look s.t i) with
   | some (.c (.p (.b v))) =>
    (v=k->dop P T o.op s.t s.h λd l=>lF P T e a (s.put o.dst d l) K)/\(v≠k->lF P T e a (s.put o.dst (.tup []) s.h) K)
   | some (.tup [])=>lF P T e a (s.put o.dst (.tup []) s.h) K
   | _=>False
end
section
section types
variable {P:Program}{T:Tab}{w:World}
theorem bO(a:bQ P T){t:Nat}(h:(T t).size≠0):(T t).k≠.no:=by
 intro b;have:=a t;grind [zRd]
theorem cI(a:bQ P T){t:Nat}(h:(T t).k≠.no):kV (P.underlying t) (T t).k/\∃i z,P.info? t=some i/\i.size=(T t).size/\i.bytes=(T t).bytes/\i.zero=some z/\(T t).zero.map jM=z.cells.toList.map some/\(T t).size=(T t).zero.length /\
   ((T t).k.agg=true->∃cs,z=.agg cs)/\((T t).k.agg=false->(T t).size=1/\z.oneCell'=true):=by
 have:=a t;grind [zRd]
theorem fB(a:bQ P T){t:Nat}(h:(T t).k≠.no):(sizeOf t).run P w=.ok (T t).size w:=by
 obtain⟨_,i,z,b,d,_⟩:=cI a h;simp_all[sizeOf,typeInfo]
theorem yD(e:bQ P T){t:Nat}(h:(T t).k≠.no):(isAgg t).run P w=.ok (T t).k.agg w:=by
 obtain ⟨a,_⟩:=cI e h;unfold isAgg;cases l:(T t).k<;>rw[l] at a<;>simp only[kV] at a<;>(cases b:P.underlying t with
  | none=>simp_all
  | some d=>rw[b] at a;cases d<;>simp only at a<;>simp[run_underlying b,TK.agg])
theorem bF(l:bQ P T){t e:Nat}(h:(T t).k=.slice e):P.underlying t=some (.slice e):=by
 obtain⟨a,_⟩:=cI l (t:=t) (by rw[h];simp);rw[h] at a;cases b:P.underlying t with
 | none=>rw[b] at a;exact a.elim
 | some d=>rw[b] at a;cases d<;>simp only[kV] at a<;>subst a<;>rfl
theorem zQW(a:bQ P T){t e:Nat}(h:(T t).k=.ptr e):P.underlying t=some (.pointer e):=by
 obtain⟨b,_⟩:=cI a (t:=t) (by rw[h];intro e;cases e);unfold kV at b;grind
theorem sZ(l:bQ P T){t n e:Nat}(h:(T t).k=.array n e):P.underlying t=some (.array n e):=by
 obtain⟨a,_⟩:=cI l (t:=t) (by rw[h];simp);rw[h] at a;cases b:P.underlying t with
 | none=>rw[b] at a;exact a.elim
 | some d=>rw[b] at a;cases d<;>simp only[kV] at a<;>(obtain⟨rfl,rfl⟩:=a;rfl)
theorem oM(a:bQ P T){t:Nat}(h:(T t).k=.str):P.underlying t=some .string:=by grind [cI,kV]
theorem CY(a:bQ P T){t:Nat}(h:(T t).k=.bool):P.underlying t=some .bool:=by grind [cI,kV]
theorem tC(e:bQ P T){t:Nat}{k:IntKind}(h:(T t).k=.int k):P.underlying t=some (.int k):=by
 obtain⟨a,_⟩:=cI e (t:=t) (by rw[h];simp);rw[h] at a;cases b:P.underlying t with
 | none=>rw[b] at a;exact a.elim
 | some d=>rw[b] at a;cases d<;>simp only[kV] at a<;>subst a<;>rfl
theorem pQ(e:bQ P T){t:Nat}{fs:List (Nat × Nat)}(h:(T t).k=.struct fs):∃fields,P.underlying t=some (.struct fields)/\fields.toList.map (λf=>(f.type,f.offset))=fs:=by
 obtain⟨a,_⟩:=cI e (t:=t) (by rw[h];simp);rw[h] at a;cases b:P.underlying t with
 | none=>rw[b] at a;exact a.elim
 | some d=>rw[b] at a;cases d<;>simp only[kV] at a<;>exact⟨_,rfl,a⟩
section
variable {P:Program}{T:Tab}{w:World}
end
end types
variable {S:Nat->Prop}{X:Ctx}
theorem kY{w:World}{x:PV}{v:Value}(h:jM x=some v):dO w S x v:=by
 cases x<;>simp only[jM,b0,reduceCtorEq,Option.ite_none_right_eq_some] at h<;>simp only[dO]
 case o=>exact⟨h.2.symm,h.1⟩
 all_goals exact h.symm
theorem kE{w:World}:∀{a:List PV} {vs:Bb},a.map jM=vs.map some->bV w S a vs
 | [],[],_=>True.intro
 | x::a,v::vs,h=>by
  simp only[dt,fk] at h;exact⟨kY h.1,kE h.2⟩
 | [],_::_,h=>by simp_all
 | _::_,[],h=>by simp_all
theorem zDi(X:Ctx)(v:Value):bH X (SY v) v:=by
 unfold SY;split<;>simp only[bH,cJ,dO,Value.oneCell',and_self]
theorem zPq{t:Fr}{a:Act}(h:∀i:Nat,bH X (look t i) (a.tmps.getD i undef))(x:Operand):bH X (evD t x) (a.eval x):=by
 cases x with
 | tmp i=>exact h i
 | const v=>exact zDi X v
 | global g=>exact⟨rfl,rfl⟩
 | func f=>exact⟨[],rfl,True.intro⟩
def Val(X:Ctx)(K:Bd)(r:Result Value):Prop:=∃v d X',r=.ok v X'.w/\HInv X'/\Step X X'/\bH X' d v/\K d X'.h
theorem Val.same{K:Bd}{r:Result Value}{v:Value}{d:DV}(hi:HInv X)(a:r=.ok v X.w)(b:bH X d v)(e:K d X.h):Val X K r:=⟨v,d,X,a,hi,Step.refl hi,b,e⟩
theorem BI(l:Ba):(⟨l.toArray⟩:ByteArray).toList=l:=qw
theorem LW{a:Bf}{vs:Bb}(h:bP X a vs):bH X (.agg a) (.agg vs.toArray):=⟨vs,rfl,h⟩
theorem vC{x:CV}{v:Value}(h:cJ X x v):bH X (.c x) v:=h
theorem CT{x:PV}{v:Value}(h:dO X.w X.S x v):bH X (.c (.p x)) v:=h
section ints
variable {P:Program}
variable {Q:PV->Prop}{k':IntKind}{X:Ctx}{K:Bd}{vx:Value}
theorem zFs(d:BinOp)(t:TypeId){k:IntKind}{a b:Int}{w:World}(l:d≠.shl)(e:d≠.shr)(h:zRC d k a b Q):
  ∃x v,Q x/\jM x=some v/\(binOp d t (.int k a) (.int k b)).run P w=.ok v w:=by
 cases d<;>simp only[zRC,ne_eq,reduceCtorEq] at h l e
 case quo=>exact⟨_,_,h.2,rfl,by simp[binOp,Op.intDiv,h.1]⟩
 case rem=>exact⟨_,_,h.2,rfl,by simp[binOp,Op.intDiv,h.1]⟩
 case and=>exact⟨_,_,h,rfl,qz⟩
 case or=>exact⟨_,_,h,rfl,qz⟩
 case xor=>exact⟨_,_,h,rfl,qz⟩
 case andNot=>exact⟨_,_,h,rfl,qz⟩
 all_goals exact⟨_,_,h,rfl,by simp[binOp,Op.intArith,Op.intCmp]⟩
theorem binOp_shl(t:TypeId){k:IntKind}{a b:Int}{w:World}(e:0<=b):
  (binOp .shl t (.int k a) (.int k' b)).run P w=.ok (.int k (k.wrap (a*2 ^ (min b.toNat k.bits)))) w:=by
 have d:¬ b<0:=qd
 simp[binOp,Op.shift,d]
theorem binOp_shr(t:TypeId){k:IntKind}{a b:Int}{w:World}(e:0<=b):
  (binOp .shr t (.int k a) (.int k' b)).run P w=.ok (.int k (a.fdiv (2 ^ (min b.toNat k.bits)))) w:=by
 have d:¬ b<0:=qd
 simp[binOp,Op.shift,d]
theorem zFt(d:BinOp)(t:TypeId){a b:Ba}{w:World}(h:zRR d a b Q):
  ∃x v,Q x/\jM x=some v/\(binOp d t (.string ⟨a.toArray⟩) (.string ⟨b.toArray⟩)).run P w=.ok v w:=by
 cases d<;>simp only[zRR] at h
 case add =>
  refine⟨_,_,h.2,rfl,?_⟩;have e:(⟨a.toArray⟩:ByteArray)++⟨b.toArray⟩=⟨(a++b).toArray⟩:=by apply ByteArray.ext;simp
  simp[binOp,Op.stringOp,ByteArray.size,e,IntKind.max,IntKind.signed,IntKind.bits];omega
 all_goals exact⟨_,_,h,rfl,by simp only[binOp,Op.stringOp,BI,cC];rfl⟩
theorem zFr(d:BinOp)(t:TypeId){a b:Nat}{w:World}(h:zRy d a b Q):
  ∃x v,Q x/\jM x=some v/\(binOp d t (.float .f64 a) (.float .f64 b)).run P w=.ok v w:=by
 cases d<;>simp only[zRy] at h
 all_goals exact⟨_,_,h,rfl,by simp[binOp,Op.floatCmp,ZZ]⟩
theorem run_equal_bool{t:TypeId}(h:P.underlying t=some .bool)(a b:Bool)(w:World):(Op.equal t (.bool a) (.bool b)).run P w=.ok (a==b) w:=by
 have e:∀d:Nat,(Op.equalIn (d+1) t (.bool a) (.bool b)).run P w=.ok (a==b) w:=λd=>by
  simp_all[Op.equalIn,run_underlying]
 exact e 9999
theorem yC{t e:TypeId}(h:P.underlying t=some (.slice e))(a:Option Addr)(n c:Nat)(w:World):(Op.equal t (.slice a n c) (.slice none 0 0)).run P w=.ok a.isNone w:=by
 have b:∀d:Nat,(Op.equalIn (d+1) t (.slice a n c) (.slice none 0 0)).run P w=.ok a.isNone w:=λd=>by
  simp only[Op.equalIn];cases a<;>simp[run_underlying h]
 exact b 9999
theorem RL{t e:TypeId}(h:P.underlying t=some (.pointer e))(a:Addr)(w:World):(Op.equal t (.pointer (some a)) (.pointer none)).run P w=.ok false w:=by
 have b:∀d:Nat,(Op.equalIn (d+1) t (.pointer (some a)) (.pointer none)).run P w=.ok false w:=λd=>by
  simp_all[Op.equalIn,run_underlying]
 exact b 9999
theorem QJ{x:PV}{v:Value}{K:Bool->Prop}(b:dO X.w X.S x v)(h:zIo x K):∃a n c,v=.slice a n c/\K a.isNone:=by
 unfold zIo at h;split at h
 .grind [dO]
 .grind [dO]
 .simp only[dO] at b;obtain⟨a,c,rfl,_,_⟩:=b;cases a
  .simp_all
  .simp_all
 .simp_all
theorem zKP{T:Tab}(u:bQ P T)(hi:HInv X)(s:BinOp)(t:TypeId){x y:DV}{vy:Value}(l:bH X x vx)(m:bH X y vy)
 (h:TG s (T t) x y λd=>K (.c (.p d)) X.h):Val X K ((binOp s t vx vy).run P X.w):=by
 have fin:∀{r:Result Value},(∃z v,K (.c (.p z)) X.h/\jM z=some v/\r=.ok v X.w)->Val X K r:=by
  rintro r ⟨z,v,A,B,C⟩;exact Val.same hi C (CT (kY B)) A
 unfold TG at h;split at h
 .rename_i k a k' b;subst l;subst m;split at h
  .exact fin ⟨_,_,h.2,rfl,binOp_shl t h.1⟩
  .exact fin ⟨_,_,h.2,rfl,binOp_shr t h.1⟩
  .rename_i A B;obtain⟨rfl,C⟩:=h;exact fin (zFs s t (λe=>A e) (λe=>B e) C)
 .simp only[bH,cJ,dO] at l m;subst l;subst m;exact fin (zFt s t h)
 .simp only[bH,cJ,dO] at l m;subst l;subst m;exact fin (zFr s t h)
 .simp only[bH,cJ,dO] at l m;subst l;subst m;split at h
  .rename_i q;exact fin ⟨_,_,h,rfl,by simp only[binOp,Sem.run_bind,run_equal_bool (CY u q)];rfl⟩
  .rename_i q;exact fin ⟨_,_,h,rfl,by simp only[binOp,Sem.run_bind,run_equal_bool (CY u q)];rfl⟩
  .exact h.elim
 .simp only[bH,cJ] at l m;subst m;split at h
  .rename_i e q;obtain⟨a,n,c,rfl,h⟩:=QJ l h;exact fin ⟨_,_,h,rfl,by simp only[binOp,Sem.run_bind,yC (bF u q)];rfl⟩
  .rename_i e q;obtain⟨a,n,c,rfl,h⟩:=QJ l h;exact fin ⟨_,_,h,rfl,by simp only[binOp,Sem.run_bind,yC (bF u q)];rfl⟩
  .exact h.elim
 .simp_all
theorem zPl(hi:HInv X)(b:UnOp){x:DV}(a:bH X x vx)
 (h:dun b x λd=>K (.c (.p d)) X.h):Val X K ((Op.unary b vx).run P X.w):=by
 have fin:∀{r:Result Value},(∃z v,K (.c (.p z)) X.h/\jM z=some v/\r=.ok v X.w)->Val X K r:=by
  rintro r ⟨z,v,e,k,l⟩;exact Val.same hi l (CT (kY k)) e
 unfold dun at h;split at h
 .simp only[bH,cJ,dO] at a;subst a;exact fin ⟨_,_,h,rfl,rfl⟩
 .simp only[bH,cJ,dO] at a;subst a;exact fin ⟨_,_,h,rfl,by simp[Op.unary,Op.intArith]⟩
 .simp only[bH,cJ,dO] at a;subst a;exact fin ⟨_,_,h,rfl,by simp only[Op.unary];rfl⟩
 .simp_all
end ints
theorem jW(bl o n:Nat):(⟨bl,o,none⟩:Addr).add n=⟨bl,o+n,none⟩:=by grind [Addr.add]
theorem jC.cells{w:World}{S:Nat->Prop}{bl off:Nat}{cs:List PV}(h:jC w S bl off cs){P:Program}:∃vs:Bb,bV w S cs vs/\(loadCells ⟨bl,off,none⟩ cs.length).run P w=.ok vs.toArray w:=by
 obtain⟨vs,a,b⟩:=h.vals;rw[a.length];grind [run_loadCells_list,jW]
theorem cR.cells{X:Ctx}{bl:Nat}:∀{cs:Bf} {off:Nat},cR X bl off cs->∃vs:Bb,bP X cs vs/\∀(j:Nat) (v:Value),vs[j]?=some v->X.w.cell? ⟨bl,off+j,none⟩=some v
 | [],_,_=>⟨[],True.intro,λj v h=>by simp at h⟩
 | c::cs,off,h=>by
  obtain⟨⟨v,e,a⟩,b⟩:=h;obtain⟨vs,d,k⟩:=cR.cells b;refine⟨v::vs,⟨a,d⟩,λj u l=>?_⟩;grind
theorem bP.drop{X:Ctx}:∀{a:Bf} {vs:Bb} (n:Nat),bP X a vs->bP X (a.drop n) (vs.drop n)
 | _,_,0,h=>by simp_all
 | [],[],n+1,_=>by simp_all
 | _::_,_::_,n+1,h=>by simpa using bP.drop n h.2
 | [],_::_,_+1,h=>h.elim
 | _::_,[],_+1,h=>h.elim
theorem bP.take{X:Ctx}:∀{a:Bf} {vs:Bb} (n:Nat),bP X a vs->bP X (a.take n) (vs.take n)
 | _,_,0,_=>by simp[bP]
 | [],[],n+1,_=>by simp_all
 | _::_,_::_,n+1,h=>by simpa using ⟨h.1,bP.take n h.2⟩
 | [],_::_,_+1,h=>h.elim
 | _::_,[],_+1,h=>h.elim
section loads
variable {P:Program}{T:Tab}{X:Ctx}{K:Bd}
theorem nI(a:bQ P T){t:Nat}(b:(T t).size≠0)(d:(T t).k.agg=false){bl off:Nat}{v:Value}(e:X.w.cell? ⟨bl,off,none⟩=some v):
  (loadVar t ⟨bl,off,none⟩).run P X.w=.ok v X.w:=by
 simp[loadVar,yD a (bO a b),d,e]
theorem nH(a:bQ P T){t:Nat}(b:(T t).size≠0)(d:(T t).k.agg=true){bl off:Nat}{vs:Bb}(e:vs.length=(T t).size)
  (l:∀(j:Nat) (v:Value),vs[j]?=some v->X.w.cell? ⟨bl,off+j,none⟩=some v):
  (loadVar t ⟨bl,off,none⟩).run P X.w=.ok (.agg vs.toArray) X.w:=by
 have:=run_loadCells_list (P:=P) X.w ⟨bl,off,none⟩ vs λj v m=>by rw[jW];exact l j v m
 rw[e] at this;simp[loadVar,yD a (bO a b),d,fB a (bO a b),this]
def Ld(X:Ctx)(Q:DV->Prop)(r:Result Value):Prop:=∃v d,r=.ok v X.w/\bH X d v/\Q d
theorem Ld.mk{X:Ctx}{Q:DV->Prop}{r:Result Value}{v:Value}{d:DV}(a:r=.ok v X.w)(b:bH X d v)(e:Q d):Ld X Q r:=⟨v,d,a,b,e⟩
theorem TW(r:bQ P T)(hi:HInv X){t:Nat}(s:(T t).size≠0){a:DV}{L:Value}{Q:DV->Prop}(F:bH X a L)(h:yW (T t) X.h a Q):Ld X Q ((Instr.loadAt t L).run P X.w):=by
 unfold yW at h;split at h
 .rename_i id p;split at h
  .rename_i cells u;obtain⟨_,_,x⟩:=F;obtain⟨g,G,rfl⟩:=x _ u;have C:=hi.blk id _ u;obtain⟨N,arr,O,fz,l,H,U,V,y⟩:=C;rw[G] at l;cases l;split at h
   .rename_i d;obtain⟨vs,m,D⟩:=y.cells;have E:=m.length;have W:=(m.drop p).take (T t).size;refine Ld.mk (v:=.agg ((vs.drop p).take (T t).size).toArray) ?_ (LW W) h.2;refine nH r s d qk λj v M=>?_;grind
   .rename_i d;split at h
    .rename_i c Y;obtain⟨v,m,D⟩:=y.at_ Y;refine Ld.mk (v:=v) ?_ (vC D) h;exact nI r s (by simpa using d) m
    .exact h.elim
  .exact h.elim
 .rename_i id i j;split at h
  .rename_i k z ro u;obtain⟨_,_,x⟩:=F;obtain⟨g,G,rfl⟩:=x _ _ _ u;have C:=hi.blk id _ u;rcases C with C|⟨N,arr,O,fz,l,H,U,V,y⟩
   .simp_all
   rw[G] at l;cases l;have A:∀B:i<z.length,z[i]?=some (z.getD i []):=λB=>by rw[ed,ay B];rfl
   split at h
   .rename_i d;obtain⟨m,D,I⟩:=h;obtain⟨J,q⟩:=y.at_ (A m);obtain⟨vs,b,e⟩:=((q.drop j).take (T t).size).vals;have E:=b.length;refine Ld.mk (v:=.agg vs.toArray) ?_ (LW (bP.of_ps b)) I;exact nH r s d (by rw[<- E];simp only[cr,fh];omega) e
   .rename_i d;obtain⟨m,D,I⟩:=h;obtain⟨J,q⟩:=y.at_ (A m);have M:(z.getD i [])[j]?=some ((z.getD i []).getD j .nil):=qw
    obtain⟨v,b,e⟩:=q.at_ M;refine Ld.mk (v:=v) ?_ (CT e) I;exact nI r s (by simpa using d) b
  .exact h.elim
 .rename_i cs;obtain⟨bl,p,rfl,hS,l⟩:=F;split at h
  .rename_i d;obtain⟨vs,b,e⟩:=(l.take (T t).size).vals;have E:=b.length;refine Ld.mk (v:=.agg vs.toArray) ?_ (LW (bP.of_ps b)) h.2;exact nH r s d (by rw[<- E];simp only[cr];omega) e
  .rename_i d;split at h
   .rename_i c Z;obtain⟨⟨v,H,x⟩,_⟩:=l;refine Ld.mk (v:=v) ?_ (CT x) h;exact nI r s (by simpa using d) H
   .exact h.elim
 .simp_all
theorem zF6(e:bQ P T)(hi:HInv X){t:Nat}(k:(T t).size≠0){a:DV}{b:Value}(l:bH X a b)(h:yW (T t) X.h a λd=>K d X.h):Val X K ((Instr.loadAt t b).run P X.w):=by
 obtain⟨v,d,m,p,q⟩:=TW e hi k l h;grind [Val.same]
end loads
end
theorem mE(w:World)(bl off:Nat)(v:Value)(b:Nat):(w.setCell ⟨bl,off,none⟩ v).heap[b]?=if b=bl then (w.heap[b]?).map (fun|.cells c e f=>.cells (c.setIfInBounds off v) e f|o=>o) else w.heap[b]? := by grind [World.setCell]
def iL{P:Program}{bl off:Nat}:∀(vs:Bb) (i:Nat) (w:World) {arr:Array Value} {a:TypeId} {fz:Nat × Nat},w.heap[bl]?=some (.cells arr a fz)->off+i+vs.length<=arr.size ->
  (∀o,off+i<=o->o<off+i+vs.length->¬ (fz.1<=o/\o<fz.2))->(∀v∈vs,v.oneCell'=true)->∃w',(storeCells ⟨bl,off,none⟩ vs i).run P w=.ok () w'/\Wrote w w' bl (off+i) vs
 | [],i,w,arr,a,fz,m,_,_,_=>⟨w,by simp[storeCells],rfl,rfl,wP.rfl',rfl,λ_ _=>rfl,arr,a,fz,arr,m,m,rfl,λj=>by rw[au (by simp only[da];omega)]⟩
 | v::vs,i,w,arr,a,fz,m,p,e,x=>by
  simp only[bw] at p e;have C:w.cell? ⟨bl,off+i,none⟩=some arr[off+i]:=by grind [World.cell?]
  have D:w.frozen? ⟨bl,off+i,none⟩=false:=by simp_all[World.frozen?]
  have r:(w.setCell ⟨bl,off+i,none⟩ v).heap[bl]?=some (.cells (arr.setIfInBounds (off+i) v) a fz):=by grind [mE]
  obtain⟨w',E,d⟩:=iL (P:=P) (bl:=bl) (off:=off) vs (i+1) (w.setCell ⟨bl,off+i,none⟩ v) r qk (λo q s=>e o qd qd) λu y=>x u (by simp[y]);refine⟨w',?_,?_⟩
  .simp_all[storeCells,jW,run_store]
  .obtain⟨t,z,A,k,q,s,B,F⟩:=d.here;rw[r] at q;cases q;refine⟨d.os,d.tape,d.output,d.size.trans ql,λb l=>(d.other b l).trans (by rw[mE,au l]),arr,a,fz,k,m,s,by simpa using B,λj=>?_⟩
   grind
section stores
variable {P:Program}{T:Tab}{X:Ctx}
variable {cells:Bf}{vx vi:Value}{i:DV}
theorem tJ{x:DV}{v:Value}{a:Bf}(h:bH X x v)(b:oR x=some a):bP X a v.cells.toList:=by
 cases x<;>simp only[oR,b0,reduceCtorEq] at b<;>subst b
 case c y =>
  have d:=sI (show cJ X y v from h)
  have:v.cells = #[v]:=by cases v<;>simp_all[Value.cells,Value.oneCell']
  rw[this];exact⟨h,True.intro⟩
 case agg a=>obtain⟨vs,rfl,h⟩:=h;exact h
def Sto(X:Ctx)(K:aF->Prop)(r:Result Unit):Prop:=∃X',r=.ok () X'.w/\HInv X'/\Step X X'/\K X'.h
theorem fI.box_{id:Nat}(h:fI X id (.box cells)):∃g arr a fz,X.G id=some g/\X.w.heap[g.1]?=some (.cells arr a fz)/\g.2+cells.length<=arr.size/\zBN fz g.2 arr.size/\cR X g.1 g.2 cells:=h
theorem BB(b:bQ P T){t:Nat}(d:(T t).size≠0){a:Addr}{v:Value}(e:v.cells.toList.length=(T t).size)(w:World):(storeVar t a v).run P w=(storeCells a v.cells.toList).run P w:=by
 have:v.cells.size=(T t).size:=qd
 simp[storeVar,fB b (bO b d),this]
theorem zDx(N:bQ P T)(hi:HInv X){t:Nat}{a x:DV}{va:Value}{K:aF->Prop}(O:bH X a va)(hx:bH X x vx)(h:VE (T t) X.h a x K):Sto X K ((Instr.storeAt t va vx).run P X.w):=by
 unfold VE at h;split at h
 .exact h.elim
 rename_i ys D;obtain⟨U,d,h⟩:=h;have A:=tJ hx D;have r:=A.length;split at h
 .rename_i id off;split at h
  .rename_i cells e;obtain⟨l,B⟩:=h;obtain⟨_,_,E⟩:=O;obtain⟨g,s,rfl⟩:=E _ e;obtain⟨g',arr,el,fz,u,F,h4,G,V⟩:=(hi.blk id _ e).box_;rw[s] at u;cases u;obtain⟨w',H,I⟩:=iL (P:=P) (bl:=g.1) (off:=g.2+off) vx.cells.toList 0 X.w F qd (λo v b=>G.at_ o qd qd) A.oneCell;obtain⟨v,b⟩:=zFv hi e s l A (by simpa using I);refine⟨_,?_,b,v,B⟩;simp only[Instr.storeAt,Instr.sureAddr,Sem.run_bind,Sem.run_pure,Result.andThen_ok];rw[BB N U (by rw[<- r,d])];exact H
  .exact h.elim
 .rename_i id i j;split at h
  .rename_i k W xs e hp;obtain⟨y,l,B⟩:=h;obtain⟨C,Y,hh,hG,m,p,J⟩:=kF (ET ys) hi;rw[<- hh] at e B;have q:bV C.w C.S xs vx.cells.toList:=GF hi m Y A hp J;have Z:=q.length;have L:bH C (.c (.aptr id i j)) va:=bH.step m O;obtain⟨_,_,E⟩:=L;obtain⟨g,s,rfl⟩:=E _ _ _ e;have hb:=p.blk id _ e;rcases hb with hb|⟨g',arr,el,fz,u,F,h4,G,V⟩
   .simp_all
   rw[s] at u;cases u;have z:W[i]?=some (W.getD i []):=by rw[ed,ay y];rfl
   have M:=(V.at_ z).1;have hmul:=jA (k:=k) y;obtain⟨w',H,I⟩:=iL (P:=P) (bl:=g.1) (off:=g.2+i*k+j) vx.cells.toList 0 C.w F qd (λo v b=>G.at_ o qd qd) q.oneCell;obtain⟨v,b⟩:=zFh p e s z (by rw[M];exact l) q (by simpa using I);refine⟨_,?_,b,m.trans p v,B⟩;simp only[Instr.storeAt,Instr.sureAddr,Sem.run_bind,Sem.run_pure,Result.andThen_ok];rw[BB N U (by rw[<- r,d]),<- Y];exact H
  .exact h.elim
 .simp_all
variable {K:Bd}
theorem JP(a:bQ P T){bl off:Nat}{f:Field}{w:World}(b:(T f.type).size≠0):(fieldPlace ⟨bl,off,none⟩ f).run P w=.ok ⟨bl,off+f.offset,none⟩ w:=by
 unfold fieldPlace;simp only[Sem.run_bind,fB a (bO a b),Result.andThen_ok,Sem.run_ite,au b,Sem.run_pure,jW]
theorem zDp(y:bQ P T)(hi:HInv X){s f:Nat}{x:DV}(p:bH X x vx)(h:TM T s X.h x f λd=>K d X.h):Val X K ((Instr.fieldAt s vx f).run P X.w):=by
 unfold TM at h;split at h
 .rename_i I z;obtain⟨fields,A,J⟩:=pQ y z;split at h
  .rename_i B off C;obtain⟨q,h⟩:=h;have e:∃b,fields[f]?=some b/\b.type=B/\b.offset=off:=by
    grind
   obtain ⟨b,r,rfl,rfl⟩:=e;have a:∀l o,(Instr.fieldAt s (.pointer (some ⟨l,o,none⟩)) f).run P X.w=.ok (.pointer (some ⟨l,o+b.offset,none⟩)) X.w:=λl o=>by
    simp[Instr.fieldAt,run_underlying A,r,Instr.sureAddr,JP y q]
   split at h
   .rename_i id o;split at h
    .rename_i cells t;obtain⟨m,D,u⟩:=p;obtain⟨g,v,rfl⟩:=u _ t;refine Val.same hi (a _ _) (vC (x:=.ptr id (o+b.offset)) ⟨m,rfl,λcs E=>⟨g,v,by rw[ig]⟩⟩) h
    .exact h.elim
   .rename_i id i j;split at h
    .rename_i k L M t;obtain⟨m,D,u⟩:=p;obtain⟨g,v,rfl⟩:=u _ _ _ t;refine Val.same hi (a _ _) (vC (x:=.aptr id i (j+b.offset)) ⟨m,rfl,λk' F G E=>⟨g,v,?_⟩⟩) h;simp_all
    .exact h.elim
   .rename_i cs;obtain⟨l,o,rfl,H,m⟩:=p;exact Val.same hi (a _ _) (vC (x:=.eptr (cs.drop b.offset)) ⟨l,o+b.offset,rfl,H,m.drop _⟩) h
   .exact h.elim
  .exact h.elim
 .simp_all
theorem TY(a:bQ P T){t:Nat}{vs:Bb}{off:Nat}{Q:DV->Prop}(k:bP X cells vs)(h:zGn (T t) cells off Q):∃d v,(part t vs.toArray off).run P X.w=.ok v X.w/\bH X d v/\Q d:=by
 obtain⟨b,h⟩:=h;split at h
 .rename_i e;refine⟨_,.agg ((vs.drop off).take (T t).size).toArray,?_,LW ((k.drop off).take (T t).size),h.2⟩;simp[part,yD a (bO a b),e,fB a (bO a b)]
 .rename_i e;split at h
  .rename_i c l;obtain⟨v,m,p⟩:=k.at_ l;refine⟨_,v,?_,vC p,h⟩;simp[part,yD a (bO a b),e,m]
  .simp_all
theorem zAy(b:bQ P T)(hi:HInv X)(Z:Gnd P X){t:Nat}{x:DV}(B:bH X x vx)(C:bH X i vi)(h:DY T t X.h x i λd=>K d X.h):Val X K ((Instr.indexAt t vx vi).run P X.w):=by
 unfold DY at h;split at h
 .rename_i e k H I n p;obtain⟨q,l,r,s,h⟩:=h;subst C;obtain⟨a,c,rfl,y,J⟩:=B;have u:n.toNat<H.length:=qd
  rcases J with rfl|⟨O,m,rfl,hS,J⟩
  .simp at u
  have L:H[n.toNat]?=some (H.getD n.toNat []):=by rw[ed,ay u];rfl
  refine Val.same hi (v:=.pointer (some ⟨O,m+n.toNat*k,none⟩)) ?_ (vC (x:=.eptr _) ⟨O,_,rfl,hS,(J.at_ L).2⟩) h;simp[Instr.indexAt,asIntOf,run_underlying (bF b p),r,s,fB b (bO b q),l,jW]
 .rename_i e id m len I n p;split at h
  .rename_i k H ro z;obtain⟨q,l,r,s,h⟩:=h;subst C;obtain⟨D,U,E⟩:=B;obtain⟨h4,V⟩:=E _ _ _ z;cases W:X.G id with
   | none =>
    have hb:=hi.blk id _ z;simp only[fI] at hb;grind
   | some g =>
    rw[W] at V;obtain⟨cap,o,arr,el,fz,h6,rfl,h7,h8,h9,h10⟩:=V;refine Val.same hi (v:=.pointer (some ⟨g.1,g.2+m*k+n.toNat*k,none⟩)) ?_ (vC (x:=.aptr id (m+n.toNat) 0) ⟨D,rfl,λk' es' ro' y=>⟨g,W,?_⟩⟩) h
    .simp[Instr.indexAt,asIntOf,run_underlying (bF b p),r,s,fB b (bO b q),l,jW]
    .grind
  .exact h.elim
 .rename_i e id len I n p;split at h
  .rename_i cells z;obtain⟨l,r,s,h⟩:=h;subst C;obtain⟨D,U,E⟩:=B;obtain⟨g,A,rfl⟩:=E _ z;have q:(T e).size≠0:=qd
   refine Val.same hi (v:=.pointer (some ⟨g.1,g.2+n.toNat,none⟩)) ?_ (vC (x:=.ptr id n.toNat) ⟨D,rfl,λcs y=>⟨g,A,rfl⟩⟩) h;simp[Instr.indexAt,asIntOf,run_underlying (bF b p),r,s,fB b (bO b q),l,jW]
  .exact h.elim
 .rename_i len e id m I n p;split at h
  .rename_i cells z;obtain⟨q,h2l,r,s,h⟩:=h;subst C;obtain⟨D,U,E⟩:=B;obtain⟨g,A,rfl⟩:=E _ z;refine Val.same hi (v:=.pointer (some ⟨g.1,g.2+m+n.toNat*(T e).size,none⟩)) ?_ (vC (x:=.ptr id (m+n.toNat*(T e).size)) ⟨D,rfl,λcs y=>⟨g,A,by rw[ig]⟩⟩) h
   simp[Instr.indexAt,asIntOf,run_underlying (sZ b p),r,s,fB b (bO b q),Instr.sureAddr,jW]
  .exact h.elim
 .rename_i len e g I n p;obtain⟨l,r,s,u,h⟩:=h;subst C;obtain⟨rfl,_⟩:=B;obtain⟨Y,⟨_,M⟩,F⟩:=Z;have hj:n.toNat<(zCO g).length:=qd
  have y:=M g n.toNat ((zCO g).getD n.toNat (.i 0)) (by rw[ed,ay hj];rfl);have A:g<Y.heap.size:=by
   rcases cc g Y.heap.size with h|h
   .exact h
   .rw[World.cell?] at y;simp_all
  have N:X.w.cell? ⟨g,n.toNat,none⟩=some ((zCO g).getD n.toNat (.i 0)).val:=by rw[uK.cell F A];exact y
  have q:(T e).size≠0:=qd
  refine Val.same hi (v:=.pointer (some ⟨g,n.toNat,none⟩)) ?_ (vC (x:=.eptr _) ⟨g,_,rfl,(F g A).1,?_⟩) h
  .simp[Instr.indexAt,asIntOf,run_underlying (sZ b p),r,s,fB b (bO b q),l,Instr.sureAddr,jW]
  .simp only[jC];exact⟨⟨_,N,SV.rel _ _ _⟩,trivial⟩
 .simp_all
theorem zDr(a:bQ P T)(hi:HInv X){t:Nat}{x:DV}(p:bH X x vx)(q:bH X i vi)(h:TU T t x i λd=>K d X.h):Val X K ((Instr.index t vx vi).run P X.w):=by
 unfold TU at h;split at h
 .rename_i l s n k;obtain⟨m,r,h⟩:=h;subst q;subst p;have b:n.toNat<l.length:=qd
  refine Val.same hi (v:=.int .u8 (l.getD n.toNat 0).toNat) ?_ (CT (x:=.i .u8 _) rfl) h;have:(⟨l.toArray⟩:ByteArray)[n.toNat]?=some (l.getD n.toNat 0):=by
   rw[getElem?_pos _ _ (by simpa[ByteArray.size] using b)];rw[ed,ay b];rfl
  simp[Instr.index,asIntOf,run_underlying (oM a k),m,this]
 .rename_i len e cells s n k;obtain⟨u,m,r,h⟩:=h;subst q;obtain⟨vs,rfl,y⟩:=p;obtain⟨d,v,z,A,B⟩:=TY a y h;refine Val.same hi (v:=v) ?_ A B;simp[Instr.index,asIntOf,run_underlying (sZ a k),m,r,fB a (bO a u),z]
 .simp_all
end stores
section cuts
variable {P:Program}{T:Tab}{X:Ctx}{K:Bd}
variable {ty:Nat}{vx:Value}{hi':Option Operand}
theorem mP{t:Fr}{a:Act}(hρ:∀x,bH X (evD t x) (a.eval x)){o:Option Operand}{d:Int}{Q:Int->Prop}(h:bnd t o d Q):
  ∃n,Q n/\((o.map a.eval=none/\n=d)∨∃k,o.map a.eval=some (.int k n)):=by
 unfold bnd at h;split at h
 .simp_all
 .rename_i x;split at h
  .rename_i k n b;have:=hρ x;rw[b] at this;simp only[bH,cJ,dO] at this;simp_all
  .simp_all
theorem run_sliceBound{k:IntKind}{n:Int}{y:Nat}{c:BoundsCode}{w:World}(a:0<=n)(h1:n<=y):(Instr.sliceBound (.int k n) y c).run P w=.ok n.toNat w:=by
 simp[Instr.sliceBound,asIntOf,a,h1]
theorem gY{b:Bool}{len cap:Nat}{lo hi:Option Value}{x y:Int}{w:World}(e:(lo=none/\x=0)∨∃k,lo=some (.int k x))(l:(hi=none/\y=len)∨∃k,hi=some (.int k y))
 (a:0<=x)(h1:x<=y)(m:y<=len)(p:len<=cap):(Instr.sliceBounds b len cap lo hi none).run P w=.ok (x.toNat,y.toNat,cap) w:=by
 have d:y<=cap:=qd
 rcases e with⟨rfl,rfl⟩|⟨k,rfl⟩<;>rcases l with⟨rfl,rfl⟩|⟨k',rfl⟩
 .simp[Instr.sliceBounds]
 .simp[Instr.sliceBounds,run_sliceBound (P:=P) (show (0:Int)<=y by omega) d]
 .have:(x:Int)<=((len:Nat):Int):=h1;simp[Instr.sliceBounds,run_sliceBound (P:=P) a this]
 .have:(x:Int)<=((y.toNat:Nat):Int):=qd
  simp[Instr.sliceBounds,run_sliceBound (P:=P) (show (0:Int)<=y by omega) d,run_sliceBound (P:=P) a this]
theorem RM{b:Bool}{len cap:Nat}{lo hi d:Option Value}{k1 k2:IntKind}{y:Int}{w:World}(m:lo=none∨∃k,lo=some (.int k 0))(p:hi=some (.int k1 y))(q:d=some (.int k2 y))
 (a:0<=y)(e:y<=cap):(Instr.sliceBounds b len cap lo hi d).run P w=.ok (0,y.toNat,y.toNat) w:=by
 have l:y<=((y.toNat:Nat):Int):=qd
 have r:(0:Int)<=((y.toNat:Nat):Int):=qd
 subst p;subst q;rcases m with rfl|⟨k,rfl⟩
 .simp[Instr.sliceBounds,run_sliceBound (P:=P) a e,run_sliceBound (P:=P) a l]
 .simp[Instr.sliceBounds,run_sliceBound (P:=P) a e,run_sliceBound (P:=P) a l,run_sliceBound (P:=P) (Int.le_refl 0) r]
theorem zFZ(s:bQ P T)(hi:HInv X){t:Fr}{a:Act}(hρ:∀x,bH X (evD t x) (a.eval x)){x:DV}{lo:Option Operand}{u:Operand}(E:bH X x vx)
 (h:zFY T ty x (bnd t lo) (bnd t hi') (bnd t (some u)) λd=>K d X.h):Val X K ((Instr.sliceAt ty vx (lo.map a.eval) (hi'.map a.eval) (some (a.eval u))).run P X.w):=by
 unfold zFY at h;split at h
 .rename_i e k v D;obtain⟨F,G,h⟩:=h;obtain⟨n,h,l⟩:=mP hρ h;obtain⟨m,h,y⟩:=mP hρ h;obtain⟨q,⟨rfl,rfl,H,M,h⟩,z⟩:=mP hρ h;obtain⟨A,c,rfl,N,B⟩:=E;have y:∃k,hi'.map a.eval=some (.int k m):=by
   grind
  have z:∃k,some (a.eval u)=some (.int k m):=by
   simp_all
  obtain⟨O,y⟩:=y;obtain⟨U,z⟩:=z;have I:=RM (P:=P) (b:=true) (w:=X.w) (len:=v.length) (cap:=c) (lo:=lo.map a.eval) (by rcases l with⟨l,_⟩|l;exact .inl l;exact .inr l) y z H qd;have p:(v.take m.toNat).length=m.toNat:=by simp;omega
  have r:(Instr.sliceAt ty (.slice A v.length c) (lo.map a.eval) (hi'.map a.eval) (some (a.eval u))).run P X.w=.ok (.slice (if m.toNat=0 then A else A.map (·.add (0*(T e).size))) m.toNat m.toNat) X.w:=by
   simp only[Instr.sliceAt,Sem.run_bind,run_underlying (bF s D),Result.andThen_ok];simp only[Instr.slice,Sem.run_bind,run_underlying (bF s D),Result.andThen_ok,I,fB s (bO s F),Sem.run_pure,kx]
  refine Val.same hi r (vC (x:=.full k (v.take m.toNat)) ?_) h;refine⟨_,by rw[p],?_⟩
  rcases B with rfl|⟨J,C,rfl,L,B⟩
  .simp_all
  .by_cases V:m.toNat=0
   .simp_all
   .refine .inr ⟨J,C,?_,L,B.take _⟩;simp[jW]
 .simp_all
theorem zDw(p:bQ P T)(hi:HInv X){t:Fr}{a:Act}(hρ:∀x,bH X (evD t x) (a.eval x)){x:DV}{lo:Option Operand}(E:bH X x vx)
 (h:VD T ty X.h x (bnd t lo) (bnd t hi') λd=>K d X.h):Val X K ((Instr.sliceAt ty vx (lo.map a.eval) (hi'.map a.eval) none).run P X.w):=by
 unfold VD at h;split at h
 .rename_i l q;obtain⟨n,h,C⟩:=mP hρ h;obtain⟨m,⟨L,M,N,h⟩,u⟩:=mP hρ h;simp only[bH,cJ,dO] at E;subst E;refine Val.same hi (v:=.string ⟨((l.take m.toNat).drop n.toNat).toArray⟩) ?_ (CT (x:=.s _) rfl) h;have z:=gY (P:=P) (b:=false) (w:=X.w) (len:=l.length) (cap:=l.length) C u L M N (bg _);simp only[Instr.sliceAt,Sem.run_bind,run_underlying (oM p q),Result.andThen_ok];simp only[Instr.slice,Sem.run_bind,run_underlying (oM p q),Result.andThen_ok];have A:(⟨l.toArray⟩:ByteArray).size=l.length:=by simp[ByteArray.size]
  rw[A];simp only[gm,av,ax,Sem.run_bind,z,Result.andThen_ok,Sem.run_pure]
  congr 2
  apply ByteArray.ext;rw[ByteArray.data_extract];grind
 .rename_i e k W q;obtain⟨O,A,h⟩:=h;obtain⟨n,h,C⟩:=mP hρ h;obtain⟨m,⟨L,M,N,h⟩,u⟩:=mP hρ h;simp only[bH,cJ,dO] at E;obtain⟨ad,c,rfl,F,hL⟩:=E;have z:=gY (P:=P) (b:=true) (w:=X.w) C u L M N F;have D:((W.take m.toNat).drop n.toNat).length=m.toNat-n.toNat:=by simp;omega
  have B:(Instr.sliceAt ty (.slice ad W.length c) (lo.map a.eval) (hi'.map a.eval) none).run P X.w=.ok (.slice (if c=n.toNat then ad else ad.map (·.add (n.toNat*(T e).size))) (m.toNat-n.toNat) (c-n.toNat)) X.w:=by
   simp only[Instr.sliceAt,Sem.run_bind,run_underlying (bF p q),Result.andThen_ok];simp only[Instr.slice,Sem.run_bind,run_underlying (bF p q),Result.andThen_ok,z,fB p (bO p O),Sem.run_pure]
  refine Val.same hi B (CT (x:=.sl k ((W.take m.toNat).drop n.toNat)) ?_) h;simp only[dO];refine⟨_,_,by rw[D],by rw[D];omega,?_⟩
  rcases hL with rfl|⟨bl,r,rfl,hS,hL⟩
  .exact .inl ql
  .by_cases U:m.toNat=n.toNat
   .exact .inl (j0 qd)
   .refine .inr ⟨bl,r+n.toNat*k,?_,hS,(hL.take _).drop _⟩;rw[au qd,A];simp[jW]
 .rename_i e q;obtain⟨O,h⟩:=h;obtain⟨n,h',C⟩:=mP hρ h;obtain⟨m,⟨L,M,N,Y⟩,u⟩:=mP hρ h';simp only[bH,cJ,dO] at E;subst E;have H:n=0:=qd
  have I:m=0:=qd
  subst H;subst I;have z:=gY (P:=P) (b:=true) (w:=X.w) (len:=0) (cap:=0) (hi:=hi'.map a.eval) (y:=0) C (by rcases u with⟨u,_⟩|u;exact .inl ⟨u,rfl⟩;exact .inr u) qd qd qd (bg _);refine Val.same hi (v:=.slice none 0 0) ?_ (CT (x:=.nil) rfl) Y;simp only[Instr.sliceAt,Sem.run_bind,run_underlying (bF p q),Result.andThen_ok];simp only[Instr.slice,Sem.run_bind,run_underlying (bF p q),Result.andThen_ok,z,fB p (bO p O),Sem.run_pure];simp
 .rename_i e id r len q;split at h
  .rename_i k W ro U;obtain⟨O,A,h⟩:=h;obtain⟨n,h',C⟩:=mP hρ h;obtain⟨m,⟨L,M,N,Y⟩,u⟩:=mP hρ h';obtain⟨hid,_,h3⟩:=E;obtain⟨h4,V⟩:=h3 _ _ _ U;cases Z:X.G id with
   | none =>
    rw [Z] at V;simp only at V;subst V;have J:len=0:=by
     have z:=hi.blk id _ U;simp only[fI] at z;simp_all
    subst J;have H:n=0:=qd
    have I:m=0:=qd
    subst H;subst I;have z:=gY (P:=P) (b:=true) (w:=X.w) (len:=0) (cap:=0) (hi:=hi'.map a.eval) (y:=0) C u qd qd qd (bg _);refine Val.same hi (v:=.slice none 0 0) ?_ (vC (x:=.own id r 0) ⟨hid,rfl,λk' es' ro' F=>⟨by rw[U] at F;cases F;omega,by rw[Z]⟩⟩) (by simpa using Y)
    simp only[Instr.sliceAt,Sem.run_bind,run_underlying (bF p q),Result.andThen_ok];simp only[Instr.slice,Sem.run_bind,run_underlying (bF p q),Result.andThen_ok,z,fB p (bO p O),Sem.run_pure];simp
   | some g =>
    rw [Z] at V;obtain⟨cap,o,arr,el,fz,h6,rfl,h7,h8,h9,h10⟩:=V;have z:=gY (P:=P) (b:=true) (w:=X.w) C u L M N h8;have B:(Instr.sliceAt ty (.slice (some ⟨g.1,o,none⟩) len cap) (lo.map a.eval) (hi'.map a.eval) none).run P X.w =
      .ok (.slice (some ⟨g.1,if cap=n.toNat then o else o+n.toNat*k,none⟩) (m.toNat-n.toNat) (cap-n.toNat)) X.w:=by
     simp only[Instr.sliceAt,Sem.run_bind,run_underlying (bF p q),Result.andThen_ok];simp only[Instr.slice,Sem.run_bind,run_underlying (bF p q),Result.andThen_ok,z,fB p (bO p O),Sem.run_pure,A]
     congr 2
     split
     .rfl
     .simp[jW]
    refine Val.same hi B (vC (x:=.own id (r+n.toNat) (m.toNat-n.toNat)) ⟨hid,rfl,λk' es' ro' F=>?_⟩) Y;rw[U] at F;cases F;refine⟨qd,?_⟩
    rw[Z];refine⟨cap-n.toNat,_,arr,el,fz,h6,rfl,?_,qd,qd,?_⟩
    .by_cases hcn:cap=n.toNat
     .exact .inl qd
     .right;rw[au hcn];rcases h7 with h7|h7
      .omega
      .rw[h7,ez];omega
    .have:r+n.toNat+(cap-n.toNat)=r+cap:=qd
     rw[this];exact h10
  .exact h.elim
 .exact h.elim
theorem AK{w:World}{S:Nat->Prop}:∀{es:Bc} {l:Ba} {vs:Bb},bytesOf es=some l->bV w S es.flatten vs->∃k:List Int,vs=k.map (Value.int .u8)/\k.map (λn=>UInt8.ofNat n.toNat)=l/\es.length=l.length
 | [],l,vs,h,a=>by
  simp only[bytesOf,b0] at h;subst h;cases vs with
  | nil=>exact⟨[],rfl,rfl,rfl⟩
  | cons _ _=>exact a.elim
 | e::es,l,vs,h,a=>by
  simp only[bytesOf] at h;split at h
  .rename_i b t d p;simp only[b0] at h;subst h;unfold byteOf at d;split at d
   .rename_i n;simp only[b0] at d;subst d;simp only[mo,gn,e9] at a;cases vs with
    | nil=>exact a.elim
    | cons v vs =>
     obtain⟨m,q⟩:=a;simp only[dO] at m;subst m;obtain⟨k,rfl,r,s⟩:=AK p q;exact⟨n::k,rfl,by simp[r],by simp[s]⟩
   .cases d
  .cases h
theorem foldl_push_bytes: ∀(a:List Int) (s:ByteArray),a.foldl (λr n=>r.push (UInt8.ofNat n.toNat)) s=⟨(s.data.toList++a.map λn=>UInt8.ofNat n.toNat).toArray⟩
 | [],s=>by simp
 | n::a,s=>by
  simp only[gx];rw[foldl_push_bytes a];simp
theorem AM{X:Ctx}(hi:HInv X){d:DV}{v:Value}{es:Bc}(t:bH X d v)(l:EF X.h d=some es):
  ∃ a c vs,v=.slice a es.length c/\bV X.w X.S es.flatten vs/\(a=none->es=[]) /\
   ∀e,a=some e->∀(j:Nat) (u:Value),vs[j]?=some u->X.w.cell? (e.add j)=some u:=by
 have m:∀{a:Option Addr} {k:Nat} {es:Bc},(es=[]∨∃x b,a=some ⟨x,b,none⟩/\hD X.w X.S k x b es) ->
   ∃vs:Bb,bV X.w X.S es.flatten vs/\(a=none->es=[])/\∀e,a=some e->∀(j:Nat) (u:Value),vs[j]?=some u->X.w.cell? (e.add j)=some u:=by
  intro a k es h;rcases h with rfl|⟨x,b,rfl,r⟩
  .exact⟨[],True.intro,λ_=>rfl,λe h j u h=>by simp at h⟩
  .obtain⟨vs,y,_,z⟩:=r.vals;exact⟨vs,y,(λh=>by cases h),(λe h j u N=>by cases h;rw[jW];exact z j u N)⟩
 unfold EF at l;split at l
 .cases l;simp only[bH,cJ,dO] at t;exact⟨none,0,[],t,True.intro,(λ_=>rfl),(λe h=>by cases h)⟩
 .rename_i k s;cases l;simp only[bH,cJ,dO] at t;obtain⟨a,c,rfl,V,r⟩:=t;obtain⟨vs,y,z,E⟩:=m (a:=a) (k:=k) (es:=es) (by
   rcases r with r|⟨x,b,y,_,z⟩
   .exact .inl r
   .exact .inr ⟨x,b,y,z⟩)
  exact⟨a,c,vs,rfl,y,z,E⟩
 .rename_i id b len;split at l
  .rename_i k s W L;cases l;obtain⟨_,_,E⟩:=t;obtain⟨M,C⟩:=E _ _ _ L;have p:((s.drop b).take len).length=len:=by simp;omega
   have q:=hi.blk id _ L;simp only[fI] at q;cases A:X.G id with
   | none =>
    rw[A] at C;rcases q with q|⟨O,_,_,_,B,_⟩
    .rw[q.2] at M p ⊢;have:len=0:=by simp at M;omega
     subst this;exact⟨none,0,[],by simpa using C,by simp[bV],(λ_=>by simp),(λe h=>by cases h)⟩
    .rw[A] at B;cases B
   | some g =>
    rw[A] at C;obtain⟨F,o,arr,Y,fz,Z,rfl,D,h8,h9,U⟩:=C;rcases q with q|⟨O,_,_,_,B,_,_,_,r⟩
    .rw[A] at q;cases q.1
    rw [A] at B;cases B;obtain⟨vs,H,I,J⟩:=m (a:=some ⟨g.1,o,none⟩) (k:=k) (es:=(s.drop b).take len) (by
     rcases D with D|D
     .exact .inl (j0 qd)
     .exact .inr ⟨g.1,g.2+b*k,by rw[D],(r.drop b).take len⟩)
    exact⟨_,F,vs,by rw[p],H,I,J⟩
  .cases l
 .cases l
end cuts
section news
variable {P:Program}{T:Tab}{X:Ctx}{K:Bd}
variable {vs:Bb}{arr:Array Value}{fz:Nat × Nat}{ts:Array TypeId}
theorem bV.length_flatten{w:World}{S:Nat->Prop}{es:Bc}{k:Nat}(h:bV w S es.flatten vs)(a:∀e∈es,e.length=k):vs.length=es.length*k:=by
 rw[<- h.length,gG a]
theorem DI: ∀{es:Bc} {l:Ba},bytesOf es=some l->∀e∈es,e.length=1
 | [],_,_,e,a=>by simp at a
 | x::es,l,h,e,a=>by
  simp only[bytesOf] at h;split at h
  .rename_i b m d k;rcases bx.1 a with rfl|a
   .unfold byteOf at d;split at d
    .rfl
    .cases d
   .exact DI k e a
  .cases h
theorem zDz(l:Ba):bytesOf (bS l)=some l:=by
 induction l with
 | nil=>rfl
 | cons b l a =>
  have d:byteOf [.i .u8 (b.toNat:Int)]=some b:=by
   simp only[byteOf,ix,b0];exact UInt8.ofNat_toNat
  have:bS (b::l)=[.i .u8 (b.toNat:Int)]::bS l:=rfl;simp only[this,bytesOf,d,a]
theorem VF(l:Ba):(bS l).flatten=l.map λb=>PV.i .u8 (b.toNat:Int):=by
 induction l with
 | nil=>rfl
 | cons b l a =>
  have:bS (b::l)=[.i .u8 (b.toNat:Int)]::bS l:=rfl;rw[this,mo,a];rfl
theorem vZ(hi:HInv X){w':World}{d:TypeId}{k:Nat}{es:Bc}(a:Grew X.w w' (.cells arr d fz))
 (m:∀e∈es,e.length=k)(p:bV X.w X.S es.flatten vs)(q:∀(j:Nat) (v:Value),vs[j]?=some v->arr[j]?=some v)(b:es.length*k<=arr.size)(r:wM k fz 0 arr.size):
  Step X (X.push w' (.arr k es false))/\HInv (X.push w' (.arr k es false)):=by
 have l:=Step.push hi a (.arr k es false);refine⟨l,HInv.push hi a ?_ rfl⟩;have s:(X.push w' (.arr k es false)).G X.h.length=some (X.w.heap.size,0):=rb
 simp only[fI];refine .inr ⟨_,arr,d,fz,s,a.new,by simpa using b,r,hD.of_vals m (p.kept l.kept) λj v t=>?_⟩
 show w'.cell? _=_;simp only[World.cell?,a.new,gm,av,ax,fm];exact q j v t
theorem wC{w':World}{b:TypeId}{k n cap:Nat}{es:Bc}(e:Grew X.w w' (.cells arr b fz))(q:n<=es.length)(l:n<=cap)(m:cap<=maxLen)(a:cap*k<=arr.size):
  bH (X.push w' (.arr k es false)) (.c (.own X.h.length 0 n)) (.slice (some ⟨X.w.heap.size,0,none⟩) n cap):=by
 refine vC (x:=.own X.h.length 0 n) ⟨rb,rfl,λk' p r d=>?_⟩
 simp only[Ctx.push,kc,b0,DB.arr.injEq] at d;obtain⟨rfl,rfl,rfl⟩:=d;refine⟨qd,?_⟩
 simp only[Ctx.push,az];exact⟨cap,0,arr,b,fz,e.new,rfl,.inr ql,l,m,by simpa using a⟩
theorem zIl(hi:HInv X){w':World}{b:TypeId}{cells:Bf}(a:Grew X.w w' (.cells arr b fz))(d:bP X cells arr.toList)(l:zBN fz 0 arr.size):
  Step X (X.push w' (.box cells))/\HInv (X.push w' (.box cells))/\bH (X.push w' (.box cells)) (.c (.ptr X.h.length 0)) (.pointer (some ⟨X.w.heap.size,0,none⟩)):=by
 have e:=Step.push hi a (.box cells);have k:(X.push w' (.box cells)).G X.h.length=some (X.w.heap.size,0):=rb
 refine⟨e,HInv.push hi a ?_ rfl,vC (x:=.ptr X.h.length 0) ⟨rb,rfl,λcs _=>⟨_,k,rfl⟩⟩⟩
 simp only[fI];refine⟨_,arr,b,fz,k,a.new,by have:=d.length;simp at this ⊢;omega,l,cR.mk λj c m=>?_⟩
 obtain⟨v,p,q⟩:=d.at_ m;refine⟨v,?_,q.step e⟩;show w'.cell? _=_;simp only[World.cell?,a.new,gm,av,ax,fm];simpa using p
theorem zBN.zero(lo hi:Nat):zBN (0,0) lo hi:=.inl rfl
theorem Grew.alloc(w:World)(o:Obj):Grew w (w.alloc o) o:=⟨rfl,rfl,rfl,wP.rfl'⟩
theorem Grew.drew{w w':World}{o:Obj}(h:Grew w.drew w' o):Grew w w' o:=⟨h.heap,h.os,h.tape,h.output.1,bj (mg _) h.output.2⟩
theorem zOP(hi:HInv X){t:TypeId}{x:DV}{v:Value}{a:Bf}(b:bH X x v)(d:oR x=some a)(h:K (.c (.ptr X.h.length 0)) (X.h++[.box a])):Val X K ((Instr.box t v).run P X.w):=by
 obtain⟨e,k,l⟩:=zIl hi (Grew.alloc X.w (.cells v.cells t)) (tJ b d) (zBN.zero _ _);refine⟨_,_,_,?_,k,e,l,h⟩;simp[Instr.box,newVar,newRow,Ctx.push]
theorem zFc(b:bQ P T)(hi:HInv X){t:Nat}(d:(T t).k≠.no)(h:K (.c (.ptr X.h.length 0)) (X.h++[.box ((T t).zero.map .p)])):Val X K ((Instr.alloc t true (.tuple #[])).run P X.w):=by
 obtain⟨_,i,z,e,s,u,l,m,v,x⟩:=cI b d;obtain⟨q,r,a⟩:=zIl hi (Grew.alloc X.w (.cells z.cells t)) (bP.of_ps (kE m)) (zBN.zero _ _);refine⟨_,_,_,?_,r,q,a,h⟩;simp[Instr.alloc,zeroValue,typeInfo,e,l,newVar,newRow,Ctx.push]
theorem JC{w:World}{bl:Nat}{a:TypeId}(h:w.heap[bl]?=some (.cells arr a fz))(n:Nat):
  Touched w (w.freeze ⟨bl,n,none⟩ 1) bl/\(w.freeze ⟨bl,n,none⟩ 1).heap[bl]?=some (.cells arr a (if fz.1==fz.2 then (n,n+1) else (min fz.1 n,max fz.2 (n+1)))):=by
 have d:(w.freeze ⟨bl,n,none⟩ 1).heap[bl]?=some (.cells arr a (if fz.1==fz.2 then (n,n+1) else (min fz.1 n,max fz.2 (n+1)))):=by
  simp[World.freeze,ia,h]
 refine⟨⟨rfl,rfl,wP.rfl',by simp[World.freeze],λb k=>?_,?_⟩,d⟩
 .simp only[World.freeze,Nat.succ_ne_self,ax];rw[ia,au (λe=>k e.symm)]
 .exact .inl ⟨_,_,_,_,_,_,h,d,rfl⟩
theorem zFW(q:bQ P T)(hi:HInv X){src z:Nat}{x:DV}{v:Value}(u:bH X x v)(h:zFV T src z x X.h K):Val X K ((convert src z v).run P X.w):=by
 unfold zFV at h;split at h
 .rename_i k0 k k' n m p;simp only[bH,cJ,dO] at u;subst u;exact Val.same hi (by simp[convert,run_underlying (tC q m),run_underlying (tC q p),Conv.intToInt]) (CT (x:=.i _ _) rfl) h
 .rename_i l m p;simp only[bH,cJ,dO] at u;subst u;exact Val.same hi (by simp[convert,run_underlying (oM q m),run_underlying (oM q p)]) (CT (x:=.s _) rfl) h
 .rename_i e m p;split at h
  .rename_i es r hes;split at h
   .rename_i l hl;obtain⟨a,c,vs,rfl,A,B,h3⟩:=AM hi u hes;obtain⟨ns,rfl,L,Z⟩:=AK hl A;refine Val.same hi (v:=.string ⟨l.toArray⟩) ?_ (CT (x:=.s _) rfl) h;rw[run_convert_bytes_string X.w src z e a es.length c (bF q m) (tC q r) (oM q p)];cases a with
    | none =>
     have:=B rfl;subst this;simp only[bytesOf,b0] at hl;subst hl;simp[Conv.bytesToString];rfl
    | some ad =>
     have M:=run_loadCells_list (P:=P) X.w ad (ns.map (Value.int .u8)) (h3 ad rfl);have hnl:(ns.map (Value.int .u8)).length=es.length:=by
      rw[Z,<- L];simp
     rw[hnl] at M;rw[run_bytesToString X.w ad es.length c ns M,foldl_push_bytes,L];simp
   .exact h.elim
  .exact h.elim
 .rename_i e l m p;split at h
  .rename_i r;obtain⟨hsz,hln,h⟩:=h;simp only[bH,cJ,dO] at u;subst u;have C:=Lib.run_convert_string_bytes (P:=P) X.w src z e ⟨l.toArray⟩ (oM q m) (bF q p) (tC q r);have N:(⟨l.toArray⟩:ByteArray).size=l.length:=by simp[ByteArray.size]
   rw [N] at C;have O:=grownCap_ge X.w l.length 0 e;have hle:=grownCap_le_maxLen X.w l.length 0 e ra;have t:(Lib.bytesCells X.w e ⟨l.toArray⟩).size=grownCap X.w l.length 0 e:=by
    simp only[Lib.bytesCells,N];simp;omega
   have E:Grew X.w (Lib.bytesWorld X.w e ⟨l.toArray⟩) (.cells (Lib.bytesCells X.w e ⟨l.toArray⟩) e ((Lib.bytesCells X.w e ⟨l.toArray⟩).size,(Lib.bytesCells X.w e ⟨l.toArray⟩).size+1)):=by
    refine⟨?_,?_,?_,?_⟩
    .apply Array.ext
     .rw[Lib.bytesWorld_size,Array.size_push]
     .intro i A B;rw[Lib.bytesWorld_size] at A;have:=Lib.bytesWorld_at_new X.w e ⟨l.toArray⟩;have hold:=Lib.bytesWorld_at_old X.w e ⟨l.toArray⟩ i;rcases cc i X.w.heap.size with F|O
      .have:=hold F;rw[Array.getElem_push_lt F];rw[iz (by rw[Lib.bytesWorld_size];omega),iz F] at this;exact fx this
      .have hi':i=X.w.heap.size:=qd
       subst hi';rw[Array.getElem_push_eq];rw[iz (by rw[Lib.bytesWorld_size];omega)] at this;exact fx this
    all_goals
     first|(constructor<;>simp only[Lib.bytesWorld,World.freeze]<;>split<;>first|rfl|exact mg _|exact bg _)|(simp only[Lib.bytesWorld,World.freeze];split<;>rfl)
   have hr:bV X.w X.S (bS l).flatten (l.map λb=>Value.int .u8 (b.toNat:Int)):=by
    rw [VF];exact bV.mk ql λj c v A B=>by
     rw[dv] at A B;obtain⟨b,y,rfl⟩:=du.1 A;rw[y] at B;cases B;rfl
   have U:(bS l).length=l.length:=rm
   obtain ⟨A,B⟩:=vZ (k:=1) hi E (λe G=>DI (zDz l) e G) hr (λj v H=>by
     have hjl:=aR H;simp only[di] at hjl;simp only[Lib.bytesCells];rw[mr qk];rw[dv] at H;simpa using H) (by rw[t,U];omega) ⟨.inr (bg _),.inl rfl⟩
   exact⟨_,_,_,C,B,A,wC (k:=1) (es:=bS l) E (by rw[U];exact bg _) O hle (by rw[t];omega),h⟩
  .exact h.elim
 .rename_i e e' id off len m p;split at h
  .rename_i k es G;obtain⟨rfl,r,hpos,hk1,h⟩:=h;rw[m] at p;cases p;have hx0:=u;simp only[bH,cJ] at u;obtain⟨_,_,h3⟩:=u;obtain⟨L,Z⟩:=h3 _ _ _ G;have y:=hi.blk id _ G;simp only[fI] at y;rcases y with y|⟨g,arr,el,fz,E,y,h6,I,h8⟩
   .rw[y.2] at L;simp only[da] at L;omega
   rw [E] at Z;obtain⟨cap,o,arr',el',fz',k1,rfl,_⟩:=Z;obtain⟨V,D⟩:=JC y arr.size;have W:X.h.set id (.arr k es false)=X.h:=by
    apply ir;intro i;rw[mh];split
    .rename_i e1;subst e1;exact G.symm
    .rfl
   have J:=Step.put hi G rfl rfl E V (d:=.arr k es false) ⟨rfl,bg _⟩ rfl;have hin:HInv (X.put (X.w.freeze ⟨g.1,arr.size,none⟩ 1) id (.arr k es false)):=HInv.put hi G rfl rfl E V ⟨rfl,bg _⟩ rfl (by
    simp only[fI];refine .inr ⟨g,arr,el,_,E,D,h6,?_,?_⟩
    .refine ⟨?_,.inl hk1⟩;have I:=I.1;simp only[zBN] at I ⊢;split
     .exact .inr (bg _)
     .rename_i Y;simp only[dq] at Y;rcases I with I|I
      .exact absurd I Y
      .exact .inr qf
    .obtain⟨vs,q1,_,q3⟩:=h8.vals;refine hD.of_vals (λe he'=>?_) (bV.kept J.kept q1) λj v H=>?_
     .obtain⟨j,H⟩:=eh.1 he';exact(h8.at_ H).1
     .have:=q3 j v H;simp only[World.cell?,y] at this;simp only[World.cell?,Ctx.put,D];exact this)
   refine⟨_,_,_,?_,hin,J,hx0.step J,by simp only[Ctx.put,W];exact h⟩
   simp[convert,run_underlying (bF q m),run_underlying (tC q r),markStringish,World.shape?,y,Ctx.put]
  .exact h.elim
 .exact h.elim
theorem zKS(p:bQ P T)(hi:HInv X){t:Nat}{x:DV}{v:Value}{ty:TypeId}(q:ts[0]?=some t)(m:bH X x v)(h:dlen (T t) X.h x λd=>K d X.h):Val X K ((Builtin.len_ ts ty #[v]).run P X.w):=by
 unfold dlen at h;split at h
 .rename_i l b;simp only[bH,cJ,dO] at m;subst m;refine Val.same hi (v:=.int .i64 l.length) ?_ (CT (x:=.i _ _) rfl) h;have u:(⟨l.toArray⟩:ByteArray).size=l.length:=rfl;simp[Builtin.len_,q,run_underlying (oM p b),u,goInt]
 .rename_i e k z b;simp only[bH,cJ,dO] at m;obtain⟨a,c,rfl,I,J⟩:=m;refine Val.same hi (v:=.int .i64 z.length) ?_ (CT (x:=.i _ _) rfl) h;simp[Builtin.len_,q,run_underlying (bF p b),goInt]
 .rename_i e b;simp only[bH,cJ,dO] at m;subst m;refine Val.same hi (v:=.int .i64 0) ?_ (CT (x:=.i _ _) rfl) h;simp[Builtin.len_,q,run_underlying (bF p b),goInt]
 .rename_i e id D len b;split at h
  .rename_i k z L A;obtain⟨_,_,E⟩:=m;obtain⟨B,r⟩:=E _ _ _ A;refine Val.same hi (v:=.int .i64 len) ?_ (CT (x:=.i _ _) rfl) h;have:∃a c,v=.slice a len c:=by
    cases y:X.G id with
    | none =>
     rw[y] at r;have s:=hi.blk id _ A;simp only[fI] at s;rcases s with s|⟨M,_,_,_,C,_⟩
     .rw[s.2] at B;have:len=0:=by simp at B;omega
      subst this;exact⟨none,0,r⟩
     .rw[y] at C;cases C
    | some g =>
     rw[y] at r;obtain⟨F,o,arr,N,fz,O,H,_⟩:=r;exact⟨_,_,H⟩
   obtain⟨a,c,rfl⟩:=this;simp[Builtin.len_,q,run_underlying (bF p b),goInt]
  .exact h.elim
 .rename_i n e b;refine Val.same hi (v:=.int .i64 n) ?_ (CT (x:=.i _ _) rfl) h;simp[Builtin.len_,q,run_underlying (sZ p b),goInt]
 .exact h.elim
theorem zGb(hi:HInv X){lt:Bool}{e:Bi}{ty:TypeId}(p:eC X e vs)(h:dmm lt e λd=>K d X.h):
  Val X K ((if lt then Builtin.min_ ts ty vs.toArray else Builtin.max_ ts ty vs.toArray).run P X.w):=by
 unfold dmm at h;split at h
 .rename_i k a k' b
  match vs,p with
  | [q,v2],⟨l,m,_⟩ =>
   simp only[bH,cJ,dO] at l m;subst l;subst m;refine Val.same hi ?_ (CT (x:=.i _ _) rfl) h;cases lt
   .simp[Builtin.max_,Builtin.max2]
   .simp[Builtin.min_,Builtin.min2]
 .exact h.elim
end news
end Go.Dm
end
end
