/- Part 18 of the proof of roomDeep_card, set without needless blanks. No condition. -/
import Derived.Test.YtlbfnbldeefgmaaGreatDoorC16
set_option linter.all false
section
set_option maxRecDepth 100000
namespace Go.Dm
open Go
def iK:DB→Bool
 | .dead=>true
 | .arr _ es ro=>!ro && es.all (fun e=>e.all qH)
 | _=>false
def mK:CV→Bool
 | .p x=>qH x
 | .own _ _ _=>true
 | _=>false
def zBr:EV→Bool
 | .c x=>mK x
 | .agg xs=>xs.all mK
def sK:DV→Bool
 | .c x=>mK x
 | .agg xs=>xs.all mK
 | .tup xs=>xs.all zBr
 | _=>false
theorem wX {w w':World} {S S':Nat→Prop} {bl:Nat} (hw:w'.heap[bl]? = w.heap[bl]?):∀ {cs:List PV} {off:Nat},cs.all qH=true→fJ w S bl off cs→fJ w' S' bl off cs
 | [],_,_,_=>by simp only [fJ]
 | c::cs,off,hs,h=>by
  simp only [List.all_cons,Bool.and_eq_true] at hs;simp only [fJ] at h ⊢;obtain ⟨⟨v,h1,h2⟩,h3⟩:=h;exact ⟨⟨v,by rw [World.cell?_of_block (a:=⟨bl,off,none⟩) hw];exact h1,wY hs.1 h2⟩,wX hw hs.2 h3⟩
theorem zZ {w w':World} {S S':Nat→Prop} {k bl:Nat} (hw:w'.heap[bl]? = w.heap[bl]?):∀ {es:List (List PV)} {off:Nat},es.all (fun e=>e.all qH)=true→eI w S k bl off es→eI w' S' k bl off es
 | [],_,_,_=>by simp only [eI]
 | e::es,off,hs,h=>by
  simp only [List.all_cons,Bool.and_eq_true] at hs;simp only [eI] at h ⊢;exact ⟨⟨h.1.1,wX hw hs.1 h.1.2⟩,zZ hw hs.2 h.2⟩
theorem rM {X Y:Ctx} {n:Nat} (ho:∀ id off len v,bP X (.own id off len) v→bP Y (.own (id+n) off len) v) {x:CV} {v:Value} (hs:mK x=true) (h:bP X x v):bP Y (x.sh n) v:=by
 cases x <;> simp only [mK,Bool.false_eq_true] at hs
 case p=>exact wY hs h
 case own=>exact ho _ _ _ _ h
theorem oI {X Y:Ctx} {n:Nat} (ho:∀ id off len v,bP X (.own id off len) v→bP Y (.own (id+n) off len) v):∀ {xs:List CV} {vs:List Value},xs.all mK=true→aY X xs vs→aY Y (xs.map (CV.sh n)) vs
 | [],[],_,_=>True.intro
 | x::xs,v::vs,hs,h=>by
  simp only [List.all_cons,Bool.and_eq_true] at hs;exact ⟨rM ho hs.1 h.1,oI ho hs.2 h.2⟩
 | [],_::_,_,h=>h.elim
 | _::_,[],_,h=>h.elim
theorem wG {X Y:Ctx} {n:Nat} (ho:∀ id off len v,bP X (.own id off len) v→bP Y (.own (id+n) off len) v):∀ {xs:List EV} {vs:List Value},xs.all zBr=true→cA X xs vs→cA Y (xs.map (EV.sh n)) vs
 | [],[],_,_=>True.intro
 | x::xs,v::vs,hs,h=>by
  simp only [List.all_cons,Bool.and_eq_true] at hs;refine ⟨?_,wG ho hs.2 h.2⟩;have h1:=h.1;cases x with
  | c x=>exact rM ho hs.1 h1
  | agg ys=>obtain ⟨us,k1,k2⟩:=h1;exact ⟨us,k1,oI ho hs.1 k2⟩
 | [],_::_,_,h=>h.elim
 | _::_,[],_,h=>h.elim
theorem TF {X Y:Ctx} {n:Nat} (ho:∀ id off len v,bP X (.own id off len) v→bP Y (.own (id+n) off len) v) {x:DV} {v:Value} (hs:sK x=true) (h:aX X x v):aX Y (x.sh n) v:=by
 cases x with
 | jk=>cases hs
 | c x=>exact rM ho hs h
 | agg xs=>obtain ⟨vs,h1,h2⟩:=h;exact ⟨vs,h1,oI ho hs h2⟩
 | tup xs=>obtain ⟨vs,h1,h2⟩:=h;exact ⟨vs,h1,wG ho hs h2⟩
theorem aA.lendH {P:Program} {f:FuncId} {h:aB} {i k n:Nat} {es:List (List PV)} (L:List (Option DV)) {R K:DV→aB→Prop} (hL:∀ d,some d∈L→GP d=true)
  (hc:aA P f (L.map (zI0 k (es.take n))) [] R) (h0:h[i]? = some (.arr k es false)) (hk:∀ d h',R d h'→(sK d && h'.all iK)=true∧K (d.sh h.length) (h++h'.map (DB.sh h.length))):
  aA P f (L.map (zJ3 i n)) h K:=by
 intro X vals hh hi gd hr;subst hh;have hb0:=hi.blk i _ h0
 let Y:Ctx:=⟨X.w,fun b=>X.S b∨∃ g,X.G i=some g∧b=g.1,fun _=>none,[]⟩
 have hiY:HInv Y:=⟨fun b hb=>by
  rcases hb with hb|⟨g,hg,rfl⟩
  ·exact hi.slt b hb
  ·exact hi.block_lt h0 rfl hg,fun id db hdb=>by simp [Y] at hdb,fun id db g hdb=>by simp [Y] at hdb,fun id db id' db' g1 g2 hdb=>by simp [Y] at hdb⟩
 have hkp:Kept X.w Y.w X.S Y.S:=fun b hb=>⟨.inl hb,rfl⟩;have gdY:Gnd P Y:=by
  obtain ⟨W0,g1,g2⟩:=gd;exact ⟨W0,g1,fun b hb=>⟨.inl (g2 b hb).1,(g2 b hb).2⟩⟩
 have hrY:cZ Y (L.map (zI0 k (es.take n))) vals:=tM hkp (fun v hv=>by
  obtain ⟨_,_,hv⟩:=hv;obtain ⟨hv1,hv2⟩:=hv _ _ _ h0;have hln:(es.take n).length=n:=by rw [List.length_take];omega
  simp only [aX,bP,cN];cases hg:X.G i with
  | none =>
   rw [hg] at hv2;rcases hb0 with ⟨_,rfl⟩|⟨g',_,_,_,hq,_⟩
   ·simp only [List.take_nil] at hln ⊢;exact ⟨none,0,hv2,Nat.le_refl _,.inl trivial⟩
   ·rw [hg] at hq;cases hq
  | some g =>
   rw [hg] at hv2;obtain ⟨cap,o,arr,el,fz,q1,q2,q3,q4,q5,q6⟩:=hv2;refine ⟨some ⟨g.1,o,none⟩,cap,by rw [hln];exact q2,by omega,?_⟩
   by_cases hn:n=0
   ·subst hn;exact .inl List.take_zero
   ·right;have ho:o=g.2:=by rcases q3 with q3|q3 <;> omega
    subst ho;refine ⟨g.1,g.2,rfl,.inr ⟨g,hg,rfl⟩,?_⟩;rcases hb0 with ⟨hq,_⟩|⟨g',arr',el',fz',p1,p2,p3,p4,p5⟩
    ·rw [hg] at hq;cases hq
    ·rw [hg] at p1;cases p1;exact (p5.take n).move hkp rfl) hL hr
 have key:∀ v w',Ret Y R v w'→Ret X K v w':=by
  rintro v w' ⟨d,Z,h1,h2,h3,h4,h5⟩;obtain ⟨hs,hK⟩:=hk d Z.h h5;rw [Bool.and_eq_true] at hs;obtain ⟨hs1,hs2⟩:=hs;have hfr:∀ b,b<X.w.heap.size→Z.w.heap[b]? = X.w.heap[b]? := fun b hb=>h3.frame b hb fun id db g hdb=>by simp [Y] at hdb
  have hno:∀ g,X.G i=some g→¬ X.S g.1:=fun g hg=>(hi.own i _ g h0 rfl hg).1 rfl;have hmine:∀ j db g,Z.h[j]? = some db→db.live=true→Z.G j=some g→X.w.heap.size≤g.1:=fun j db g q1 q2 q4=>by
   have hf:db.fix=false:=by
    have:=List.all_eq_true.1 hs2 db (List.mem_of_getElem? q1);cases db with
    | arr _ _ ro=>simp only [iK,Bool.and_eq_true,Bool.not_eq_true'] at this;exact this.1
    | _=>rfl
   rcases h3.mine j db g q1 q2 hf q4 with h|⟨_,_,_,h,_⟩
   ·exact h
   ·simp [Y] at h
  let Z':Ctx:=⟨Z.w,fun b=>Z.S b∧∀ g,X.G i=some g→b≠g.1,fun j=>if j<X.h.length then X.G j else Z.G (j-X.h.length),X.h++Z.h.map (DB.sh X.h.length)⟩
  have zlt:∀ {j:Nat},j<X.h.length→Z'.h[j]? = X.h[j]?∧Z'.G j=X.G j:=fun {j} hj=>⟨by show (X.h++_)[j]? = _;rw [List.getElem?_append_left hj],by show (if j<X.h.length then X.G j else _)=_;rw [if_pos hj]⟩
  have zge:∀ (j:Nat),Z'.h[j+X.h.length]? = (Z.h[j]?).map (DB.sh X.h.length)∧Z'.G (j+X.h.length)=Z.G j:=fun j=>⟨by show (X.h++_)[_]? = _;rw [List.getElem?_append_right (by omega),List.getElem?_map];congr 2;omega,by show (if _ then _ else Z.G _)=_;rw [if_neg (by omega)];congr 1;omega⟩
  have zin:∀ {j:Nat} {db:DB},Z'.h[j]? = some db→(j<X.h.length∧X.h[j]? = some db)∨∃ q db0,j=q+X.h.length∧Z.h[q]? = some db0∧db=db0.sh X.h.length:=fun {j db} hd=>by
   rcases Nat.lt_or_ge j X.h.length with hlt|hge
   ·exact .inl ⟨hlt,by rw [← (zlt hlt).1];exact hd⟩
   ·obtain ⟨q,rfl⟩:∃ q,j=q+X.h.length:=⟨j-X.h.length,by omega⟩
    rw [(zge q).1] at hd;obtain ⟨db0,e1,e2⟩:=Option.map_eq_some_iff.1 hd;exact .inr ⟨q,db0,rfl,e1,e2.symm⟩
  have hst:Step X Z':=by
   refine ⟨h3.size,h3.os,h3.tape,h3.output,fun b hb=>⟨⟨(h3.kept b (.inl hb)).1,fun g hg e=>hno g hg (e▸hb)⟩,(h3.kept b (.inl hb)).2⟩,by show _≤(X.h++_).length;rw [List.length_append];omega,fun id db' hl' hdb' hlv=>?_,fun b hb _=>hfr b hb,fun id db g' hdb hl hf hg'=>?_,fun b hb=>?_⟩
   ·rw [(zlt hl').1] at hdb';refine ⟨db',hdb',bX.refl hlv,(zlt hl').2,fun g' hg'=>?_⟩;rw [show Z'.w.heap[g'.1]? = X.w.heap[g'.1]? from hfr _ (hi.block_lt hdb' hlv hg')]
    exact (hi.blk id db' hdb').same hlv g' hg'
   ·rcases zin hdb with ⟨q1,q2⟩|⟨q,db0,rfl,q2,rfl⟩
    ·rw [(zlt q1).2] at hg';exact .inr ⟨id,db,g',q2,hl,hf,hg',rfl⟩
    ·rw [(zge q).2] at hg';rw [DB.sh_live] at hl;exact .inl (hmine q db0 g' q2 hl hg')
   ·obtain ⟨hb1,hb2⟩:=hb;rcases h3.upper b hb1 with h|h|⟨id,db,g',hdb,_⟩
    ·rcases h with h|⟨g,hg,e⟩
     ·exact .inl h
     ·exact absurd e (hb2 g hg)
    ·exact .inr (.inl h)
    ·simp [Y] at hdb
  have hi':HInv Z':=by
   refine ⟨fun b hb=>h2.slt b hb.1,fun id db hdb=>?_,fun id db g' hdb hl hg'=>?_,fun id db id' db' g1 g2 hdb hl hf hdb' hl' hg1 hg2 he=>?_⟩
   ·rcases zin hdb with ⟨q1,q2⟩|⟨q,db0,rfl,q2,rfl⟩
    ·by_cases hl:db.live=true
     ·exact (hi.blk id db q2).move hst (zlt q1).2 fun g' hg'=>hfr _ (hi.block_lt q2 hl hg')
     ·cases db <;> simp_all [DB.live,dU]
    ·have hp:=List.all_eq_true.1 hs2 db0 (List.mem_of_getElem? q2);have hb:=h2.blk q db0 q2;cases db0 with
     | dead=>simp only [DB.sh,dU]
     | box _=>cases hp
     | mp _=>cases hp
     | arr k' es' ro =>
      simp only [iK,Bool.and_eq_true] at hp;simp only [dU,DB.sh,(zge q).2] at hb ⊢;rcases hb with hb|⟨g,arr,el,fz,b1,b2,b3,b4,b5⟩
      ·exact .inl hb
      ·exact .inr ⟨g,arr,el,fz,b1,b2,b3,b4,zZ rfl hp.2 b5⟩
   ·rcases zin hdb with ⟨q1,q2⟩|⟨q,db0,rfl,q2,rfl⟩
    ·rw [(zlt q1).2] at hg';have ho:=hi.own id db g' q2 hl hg';refine ⟨fun hf hS=>?_,fun hf=>⟨(h3.kept _ (.inl (ho.2 hf))).1,fun g hg e=>hno g hg (e▸ho.2 hf)⟩⟩;rcases h3.upper _ hS.1 with h|h|⟨j,d',g2,hdb2,_⟩
     ·rcases h with h|⟨g,hg,e⟩
      ·exact ho.1 hf h
      ·exact hS.2 g hg e
     ·have:=hi.block_lt q2 hl hg';have hYw:Y.w.heap.size=X.w.heap.size:=rfl;omega
     ·simp [Y] at hdb2
    ·rw [(zge q).2] at hg';rw [DB.sh_live] at hl;rw [DB.sh_fix];have ho:=h2.own q db0 g' q2 hl hg';refine ⟨fun hf hS=>ho.1 hf hS.1,fun hf=>⟨ho.2 hf,fun g hg e=>?_⟩⟩;have e1:=hmine q db0 g' q2 hl hg';have e2:=hi.block_lt h0 rfl hg;omega
   ·rcases zin hdb with ⟨q1,q2⟩|⟨q,db0,rfl,q2,rfl⟩ <;> rcases zin hdb' with ⟨q1',q2'⟩|⟨q',db0',rfl,q2',rfl⟩
    ·rw [(zlt q1).2] at hg1;rw [(zlt q1').2] at hg2;exact hi.inj id db id' db' g1 g2 q2 hl hf q2' hl' hg1 hg2 he
    ·rw [(zlt q1).2] at hg1;rw [(zge q').2] at hg2;rw [DB.sh_live] at hl';have e1:=hmine q' db0' g2 q2' hl' hg2;have e2:=hi.block_lt q2 hl hg1;omega
    ·rw [(zge q).2] at hg1;rw [(zlt q1').2] at hg2;rw [DB.sh_live] at hl;have e1:=hmine q db0 g1 q2 hl hg1;have e2:=hi.block_lt q2' hl' hg2;omega
    ·rw [(zge q).2] at hg1;rw [(zge q').2] at hg2;rw [DB.sh_live] at hl hl';rw [DB.sh_fix] at hf;rw [h2.inj q db0 q' db0' g1 g2 q2 hl hf q2' hl' hg1 hg2 he]
  refine ⟨d.sh X.h.length,Z',h1,hi',hst,TF (fun id off len v hv=>?_) hs1 h4,hK⟩;simp only [bP] at hv ⊢;obtain ⟨r1,r2,r3⟩:=hv;refine ⟨by show _<(X.h++_).length;rw [List.length_append,List.length_map];omega,r2,fun k' es' ro hd=>?_⟩
  rw [(zge id).1] at hd;obtain ⟨db0,e1,e2⟩:=Option.map_eq_some_iff.1 hd;cases db0 <;> simp only [DB.sh,reduceCtorEq] at e2;cases e2;rw [(zge id).2];exact r3 _ _ _ e1
 rcases hc Y _ rfl hiY gdY hrY with ⟨h1,h2⟩|⟨v,w',h1,h2⟩
 ·exact .inl ⟨h1,h2.mono fun e w' ⟨v,he,hv⟩=>⟨v,he,key v w' hv⟩⟩
 ·exact .inr ⟨v,w',h1,key v w' h2⟩
theorem zFQ {P:Program} {f:FuncId} {h h1:aB} {i k n:Nat} {es es0:List (List PV)} {d:DV} {K:DV→aB→Prop} (hes:es.take n=es0)
  (hc:aA P f [.c (.p (.sl k es0))] [] fun r h'=>r=d∧h'=h1) (h0:h[i]? = some (.arr k es false)) (hp:(sK d && h1.all iK)=true) (hk:K (d.sh h.length) (h++h1.map (DB.sh h.length))):aA P f [.c (.own i 0 n)] h K:=by
 subst hes;exact aA.lendH [none] (by simp) hc h0 fun r h' ⟨e1,e2⟩=>by subst e1;subst e2;exact ⟨hp,hk⟩
theorem zFR {P:Program} {f:FuncId} {h h1:aB} {i k n:Nat} {es es0:List (List PV)} {x d:DV} {K:DV→aB→Prop} (hx:GP x=true) (hes:es.take n=es0)
  (hc:aA P f [.c (.p (.sl k es0)),x] [] fun r h'=>r=d∧h'=h1) (h0:h[i]? = some (.arr k es false)) (hp:(sK d && h1.all iK)=true) (hk:K (d.sh h.length) (h++h1.map (DB.sh h.length))):aA P f [.c (.own i 0 n),x] h K:=by
 subst hes;exact aA.lendH [none,some x] (by simpa using hx) hc h0 fun r h' ⟨e1,e2⟩=>by subst e1;subst e2;exact ⟨hp,hk⟩
end Go.Dm
end
section
set_option maxRecDepth 100000
namespace Go.Dm
open Go
def rn (tb:List Nat) (N i:Nat):Nat:=match tb[i]? with
 | some j=>j
 | none=>N+(i-tb.length)
def KV.rn (tb:List Nat) (N:Nat):KV→KV
 | .p x=>.p x
 | .ptr id off=>.ptr (Dm.rn tb N id) off
def CV.rn (tb:List Nat) (N:Nat):CV→CV
 | .p x=>.p x
 | .own id off len=>.own (Dm.rn tb N id) off len
 | .ptr id off=>.ptr (Dm.rn tb N id) off
 | .aptr id i j=>.aptr (Dm.rn tb N id) i j
 | .mp id=>.mp (Dm.rn tb N id)
 | .bs id n=>.bs (Dm.rn tb N id) n
 | .eptr cs=>.eptr cs
 | .full k es=>.full k es
 | .clo f cap=>.clo f (cap.map (KV.rn tb N))
def EV.rn (tb:List Nat) (N:Nat):EV→EV
 | .c x=>.c (x.rn tb N)
 | .agg xs=>.agg (xs.map (CV.rn tb N))
def DV.rn (tb:List Nat) (N:Nat):DV→DV
 | .jk=>.jk
 | .c x=>.c (x.rn tb N)
 | .agg xs=>.agg (xs.map (CV.rn tb N))
 | .tup xs=>.tup (xs.map (EV.rn tb N))
def DB.rn (tb:List Nat) (N:Nat):DB→DB
 | .dead=>.dead
 | .box cells=>.box (cells.map (CV.rn tb N))
 | .arr k es ro=>.arr k es ro
 | .mp es=>.mp es
theorem DB.rn_live {tb:List Nat} {N:Nat} {db:DB}:(db.rn tb N).live=db.live:=by cases db <;> rfl
theorem DB.rn_fix {tb:List Nat} {N:Nat} {db:DB}:(db.rn tb N).fix=db.fix:=by cases db <;> rfl
theorem bX.rn_r {tb:List Nat} {N:Nat} {a b:DB} (h:bX a (b.rn tb N)):bX a b:=by cases a <;> cases b <;> simp_all [bX,DB.rn]
theorem bX.rn_lr {tb:List Nat} {N M:Nat} {a b:DB} (h:bX a b):bX (a.rn tb N) (b.rn tb M):=by
 cases a <;> cases b <;> first|exact h|exact h.elim
section pull
variable {X Y:Ctx} {tb:List Nat} {N:Nat}
structure Pull (X Y:Ctx) (tb:List Nat) (N:Nat):Prop where
 w:Y.w=X.w
 S:Y.S=X.S
 h:∀ i db,Y.h[i]? = some db→db.live=true→X.h[rn tb N i]? = some (db.rn tb N)
 G:∀ i,i<Y.h.length→Y.G i=X.G (rn tb N i)
theorem nT.pull (p:Pull X Y tb N) {c:KV} {v:Value} (hc:cC Y.h.length c=true) (h:nT X (c.rn tb N) v):nT Y c v:=by
 cases c <;> simp only [nT,KV.rn] at h ⊢
 case p=>rw [p.w,p.S];exact h
 case ptr id off =>
  simp only [cC,decide_eq_true_eq] at hc;exact ⟨hc,h.2.1,fun cells hd=>by rw [p.G _ hc];exact h.2.2 _ (p.h _ _ hd rfl)⟩
theorem eJ.pull (p:Pull X Y tb N):∀ {cs:List KV} {vs:List Value},cs.all (cC Y.h.length)=true→eJ X (cs.map (KV.rn tb N)) vs→eJ Y cs vs
 | [],[],_,_=>True.intro
 | _::_,_::_,hc,h=>by
  simp only [List.all_cons,Bool.and_eq_true] at hc;exact ⟨nT.pull p hc.1 h.1,eJ.pull p hc.2 h.2⟩
 | [],_::_,_,h=>h.elim
 | _::_,[],_,h=>h.elim
theorem bP.pull (p:Pull X Y tb N) {c:CV} {v:Value} (hc:aG Y.h.length c=true) (h:bP X (c.rn tb N) v):bP Y c v:=by
 cases c <;> simp only [bP,CV.rn] at h ⊢ <;> simp only [aG,decide_eq_true_eq] at hc
 case p=>rw [p.w,p.S];exact h
 case own id off len =>
  refine ⟨hc,h.2.1,fun k es ro hd=>?_⟩;rw [p.G _ hc,p.w];exact h.2.2 _ _ _ (p.h _ _ hd rfl)
 case ptr id off=>exact ⟨hc,h.2.1,fun cells hd=>by rw [p.G _ hc];exact h.2.2 _ (p.h _ _ hd rfl)⟩
 case aptr id i j=>exact ⟨hc,h.2.1,fun k es ro hd=>by rw [p.G _ hc];exact h.2.2 _ _ _ (p.h _ _ hd rfl)⟩
 case mp id=>exact ⟨hc,h.2.1,fun es hd=>by rw [p.G _ hc];exact h.2.2 _ (p.h _ _ hd rfl)⟩
 case bs id n=>exact ⟨hc,h.2.1,fun cells hd=>by rw [p.G _ hc];exact h.2.2 _ (p.h _ _ hd rfl)⟩
 case eptr=>rw [p.w,p.S];exact h
 case full=>rw [p.w,p.S];exact h
 case clo =>
  obtain ⟨vs,h1,h2⟩:=h;exact ⟨vs,h1,eJ.pull p hc h2⟩
theorem aY.pull (p:Pull X Y tb N):∀ {cs:List CV} {vs:List Value},cs.all (aG Y.h.length)=true→aY X (cs.map (CV.rn tb N)) vs→aY Y cs vs
 | [],[],_,_=>True.intro
 | _::_,_::_,hc,h=>by
  simp only [List.all_cons,Bool.and_eq_true] at hc;exact ⟨bP.pull p hc.1 h.1,aY.pull p hc.2 h.2⟩
 | [],_::_,_,h=>h.elim
 | _::_,[],_,h=>h.elim
theorem dL.pull (p:Pull X Y tb N) {c:EV} {v:Value} (hc:lO Y.h.length c=true) (h:dL X (c.rn tb N) v):dL Y c v:=by
 cases c <;> simp only [dL,EV.rn] at h ⊢ <;> simp only [lO] at hc
 ·exact bP.pull p hc h
 ·obtain ⟨vs,h1,h2⟩:=h;exact ⟨vs,h1,aY.pull p hc h2⟩
theorem cA.pull (p:Pull X Y tb N):∀ {cs:List EV} {vs:List Value},cs.all (lO Y.h.length)=true→cA X (cs.map (EV.rn tb N)) vs→cA Y cs vs
 | [],[],_,_=>True.intro
 | _::_,_::_,hc,h=>by
  simp only [List.all_cons,Bool.and_eq_true] at hc;exact ⟨dL.pull p hc.1 h.1,cA.pull p hc.2 h.2⟩
 | [],_::_,_,h=>h.elim
 | _::_,[],_,h=>h.elim
theorem aX.pull (p:Pull X Y tb N) {c:DV} {v:Value} (hc:aL Y.h.length c=true) (h:aX X (c.rn tb N) v):aX Y c v:=by
 cases c <;> simp only [aX,DV.rn] at h ⊢ <;> simp only [aL] at hc
 ·exact bP.pull p hc h
 ·obtain ⟨vs,h1,h2⟩:=h;exact ⟨vs,h1,aY.pull p hc h2⟩
 ·obtain ⟨vs,h1,h2⟩:=h;exact ⟨vs,h1,cA.pull p hc h2⟩
theorem cZ.pull (p:Pull X Y tb N):∀ {cs:List DV} {vs:List Value},cs.all (aL Y.h.length)=true→cZ X (cs.map (DV.rn tb N)) vs→cZ Y cs vs
 | [],[],_,_=>True.intro
 | _::_,_::_,hc,h=>by
  simp only [List.all_cons,Bool.and_eq_true] at hc;exact ⟨aX.pull p hc.1 h.1,cZ.pull p hc.2 h.2⟩
 | [],_::_,_,h=>h.elim
 | _::_,[],_,h=>h.elim
theorem dU.pull (p:Pull X Y tb N) {id:Nat} {db:DB} (hid:id<Y.h.length) (hc:bK Y.h.length db=true) (h:dU X (rn tb N id) (db.rn tb N)):dU Y id db:=by
 cases db <;> simp only [dU,DB.rn] at h ⊢
 case box cells =>
  obtain ⟨g,arr,el,fz,h1,h2,h3,h4,h5⟩:=h;refine ⟨g,arr,el,fz,by rw [p.G _ hid];exact h1,by rw [p.w];exact h2,by simpa using h3,h4,cI.mk fun j c hj=>?_⟩
  obtain ⟨v,h6,h7⟩:=h5.at_ (j:=j) (c:=c.rn tb N) (by rw [List.getElem?_map,hj];rfl);exact ⟨v,by rw [p.w];exact h6,bP.pull p (yC (show cells.all (aG Y.h.length)=true from hc) hj) h7⟩
 case arr=>rw [p.G _ hid,p.w,p.S];exact h
 case mp=>rw [p.G _ hid,p.w,p.S];exact h
def zKg (tb:List Nat) (N:Nat) (h:aB):Prop:=∀ i j db db',h[i]? = some db→db.live=true→h[j]? = some db'→db'.live=true→rn tb N i=rn tb N j→i=j
theorem HInv.pull (hi:HInv X) (p:Pull X Y tb N) (hc:Y.h.all (bK Y.h.length)=true) (hj:zKg tb N Y.h):HInv Y where
 slt:=fun b hb=>by rw [p.S] at hb;rw [p.w];exact hi.slt b hb
 blk:=fun id db h=>by
  by_cases hl:db.live=true
  ·exact dU.pull p (aI h) (yC hc h) (hi.blk _ _ (p.h _ _ h hl))
  ·cases db <;> simp_all [DB.live,dU]
 own:=fun id db g h hl hg=>by
  rw [p.G _ (aI h)] at hg;have:=hi.own _ _ g (p.h _ _ h hl) (by rw [DB.rn_live];exact hl) hg;rw [DB.rn_fix] at this;rw [p.S];exact this
 inj:=fun id db id' db' g g' h hl hf h' hl' hg hg' he=>by
  rw [p.G _ (aI h)] at hg;rw [p.G _ (aI h')] at hg';exact hj _ _ _ _ h hl h' hl' (hi.inj _ _ _ _ g g' (p.h _ _ h hl) (by rw [DB.rn_live];exact hl) (by rw [DB.rn_fix];exact hf) (p.h _ _ h' hl') (by rw [DB.rn_live];exact hl') hg hg' he)
end pull
section perm
def perm (X:Ctx) (tb:List Nat) (h:aB):Ctx:=⟨X.w,X.S,fun i=>X.G (rn tb 0 i),h⟩
def WkP (tb:List Nat) (n:Nat) (t:Fr):Fr→Prop
 | []=>True
 | p::t'=>(look t p.1=p.2.rn tb 0∧aL n p.2=true)∧WkP tb n t t'
theorem WkP.look {tb:List Nat} {n:Nat} {t:Fr}:∀ {t':Fr},WkP tb n t t'→∀ i,look t' i=.jk∨(Dm.look t i=(Dm.look t' i).rn tb 0∧aL n (Dm.look t' i)=true)
 | [],_,_=>.inl rfl
 | p::t',h,i=>by
  simp only [Dm.look];split
  ·rename_i hi;subst hi;exact .inr ⟨h.1.1,h.1.2⟩
  ·exact WkP.look h.2 i
def yU (tb:List Nat) (n0:Nat) (h:aB):Nat→aB→Prop
 | _,[]=>True
 | i,.dead::l=>yU tb n0 h (i+1) l
 | i,db::l=>(h[rn tb 0 i]? = some (db.rn tb 0)∧(Nat.ble n0 i || Nat.beq (rn tb 0 i) i)=true)∧yU tb n0 h (i+1) l
theorem yU.at_ {tb:List Nat} {n0:Nat} {h:aB}:∀ {l:aB} {i j:Nat} {db:DB},yU tb n0 h i l→l[j]? = some db→db.live=true→h[rn tb 0 (i+j)]? = some (db.rn tb 0)∧(i+j<n0→rn tb 0 (i+j)=i+j)
 | [],_,_,_,_,hj,_=>by simp at hj
 | x::l,i,0,db,hh,hj,hl=>by
  simp only [List.getElem?_cons_zero,Option.some.injEq] at hj;subst hj;cases x with
  | dead=>simp [DB.live] at hl
  | box _ =>
   refine ⟨hh.1.1,fun hlt=>?_⟩;have:=hh.1.2;rw [Bool.or_eq_true] at this;rcases this with h1|h1
   ·have:=Nat.le_of_ble_eq_true h1;omega
   ·exact Nat.eq_of_beq_eq_true h1
  | arr _ _ _ =>
   refine ⟨hh.1.1,fun hlt=>?_⟩;have:=hh.1.2;rw [Bool.or_eq_true] at this;rcases this with h1|h1
   ·have:=Nat.le_of_ble_eq_true h1;omega
   ·exact Nat.eq_of_beq_eq_true h1
  | mp _ =>
   refine ⟨hh.1.1,fun hlt=>?_⟩;have:=hh.1.2;rw [Bool.or_eq_true] at this;rcases this with h1|h1
   ·have:=Nat.le_of_ble_eq_true h1;omega
   ·exact Nat.eq_of_beq_eq_true h1
 | x::l,i,j+1,db,hh,hj,hl=>by
  simp only [List.getElem?_cons_succ] at hj;have hh':yU tb n0 h (i+1) l:=by
   cases x with
   | dead=>exact hh
   | box _=>exact hh.2
   | arr _ _ _=>exact hh.2
   | mp _=>exact hh.2
  have:=yU.at_ hh' hj hl
  rwa [show i+1+j=i+(j+1) by omega] at this
def nR:List Nat→Bool
 | []=>true
 | x::l=>!(l.any (Nat.beq x)) && nR l
theorem mF:∀ {l:List Nat},nR l=true→l.Nodup
 | [],_=>List.nodup_nil
 | x::l,h=>by
  simp only [nR,Bool.and_eq_true,Bool.not_eq_true',List.any_eq_false] at h;refine List.nodup_cons.2 ⟨fun hx=>h.1 x hx (Nat.beq_refl x),mF h.2⟩
theorem rP {tb:List Nat} {N i:Nat} (h:i<tb.length):rn tb N i=tb[i]:=by
 unfold rn;rw [List.getElem?_eq_getElem h]
theorem HP {tb:List Nat} {N i:Nat} (h:tb.length≤i):rn tb N i=N+(i-tb.length):=by
 unfold rn;rw [List.getElem?_eq_none h]
theorem PS {x:Nat}:∀ {l:List Nat} {i j:Nat},l.Nodup→l[i]? = some x→l[j]? = some x→i=j
 | [],_,_,_,h,_=>by simp at h
 | y::l,0,0,_,_,_=>rfl
 | y::l,0,j+1,hn,h1,h2=>by
  simp only [List.getElem?_cons_zero,Option.some.injEq,List.getElem?_cons_succ] at h1 h2;subst h1;exact absurd (List.mem_of_getElem? h2) (List.nodup_cons.1 hn).1
 | y::l,i+1,0,hn,h1,h2=>by
  simp only [List.getElem?_cons_zero,Option.some.injEq,List.getElem?_cons_succ] at h1 h2;subst h2;exact absurd (List.mem_of_getElem? h1) (List.nodup_cons.1 hn).1
 | y::l,i+1,j+1,hn,h1,h2=>by
  simp only [List.getElem?_cons_succ] at h1 h2;rw [PS (List.nodup_cons.1 hn).2 h1 h2]
theorem zBJ {tb:List Nat} {N i j:Nat} (hd:tb.Nodup) (hi:i<tb.length) (hj:j<tb.length) (h:rn tb N i=rn tb N j):i=j:=by
 rw [rP hi,rP hj] at h;exact PS hd (List.getElem?_eq_getElem hi) (by rw [List.getElem?_eq_getElem hj,h])
def WG (n0:Nat) (s s':DS):Prop:=∃ tb:List Nat,s'.n=s.n∧n0≤s'.h.length∧s'.h.length=tb.length∧nR tb=true∧yU tb n0 s.h 0 s'.h∧s'.h.all (bK s'.h.length)=true∧WkP tb s'.h.length s.t s'.t
theorem CO {n0:Nat} {X0 X:Ctx} {tb:List Nat} {h:aB} (hn:X0.h.length=n0) (hi:HInv X) (hs:Step X0 X) (h1:n0≤h.length) (h2:h.length=tb.length) (h3:nR tb=true) (h4:yU tb n0 X.h 0 h) (h5:h.all (bK h.length)=true):
  HInv (perm X tb h)∧Step X0 (perm X tb h)∧Pull X (perm X tb h) tb 0:=by
 have hat:∀ i db,h[i]? = some db→db.live=true→X.h[rn tb 0 i]? = some (db.rn tb 0)∧(i<n0→rn tb 0 i=i):=fun i db hd hl=>by
  have:=h4.at_ hd hl
  rwa [Nat.zero_add] at this
 have hp:Pull X (perm X tb h) tb 0:=⟨rfl,rfl,fun i db hd hl=>(hat i db hd hl).1,fun i _=>rfl⟩;refine ⟨hi.pull hp h5 fun i j db db' hd _ hd' _ he=>zBJ (mF h3) (h2▸aI hd) (h2▸aI hd') he,?_,hp⟩;refine ⟨hs.size,hs.os,hs.tape,hs.output,hs.kept,by rw [hn];exact h1,fun id db' hlt hd hl=>?_,hs.frame,fun id db g hd hl hf hg=>?_,hs.upper⟩
 ·obtain ⟨k1,k2⟩:=hat id db' hd hl;have k2:=k2 (hn▸hlt);rw [k2] at k1;obtain ⟨db,q1,q2,q3,q4⟩:=hs.ids id _ hlt k1 (by rw [DB.rn_live];exact hl);refine ⟨db,q1,q2.rn_r,?_,q4⟩;show X.G (rn tb 0 id)=_;rw [k2];exact q3
 ·obtain ⟨k1,_⟩:=hat id db hd hl;exact hs.mine _ _ g k1 (by rw [DB.rn_live];exact hl) (by rw [DB.rn_fix];exact hf) hg
theorem WG.use {n0:Nat} {s s':DS} (h:WG n0 s s') {X0 X:Ctx} {a:Act} (hn:X0.h.length=n0) (hh:X.h=s.h) (hi:HInv X) (hs:Step X0 X) (ht:TInv X s a):∃ X',X'.w=X.w∧X'.h=s'.h∧HInv X'∧Step X0 X'∧TInv X' s' a:=by
 obtain ⟨tb,h0,h1,h2,h3,h4,h5,h6⟩:=h;rw [← hh] at h4;obtain ⟨g1,g2,g3⟩:=CO hn hi hs h1 h2 h3 h4 h5;refine ⟨perm X tb s'.h,rfl,rfl,g1,g2,ht.size.trans h0.symm,fun i=>?_,ht.defs⟩;rcases h6.look i with h7|⟨h7,h8⟩
 ·rw [h7];exact True.intro
 ·have:=ht.rel i;rw [h7] at this;exact aX.pull g3 h8 this
theorem fY (tb:List Nat) {n0 n:Nat} {t t':Fr} {h h':aB} (h0:(Nat.ble n0 h'.length && (Nat.beq h'.length tb.length && nR tb))=true) (h4:yU tb n0 h 0 h') (h5:h'.all (bK h'.length)=true) (h6:WkP tb h'.length t t'):WG n0 ⟨n,t,h⟩ ⟨n,t',h'⟩:=by
 simp only [Bool.and_eq_true] at h0;exact ⟨tb,rfl,Nat.le_of_ble_eq_true h0.1,Nat.eq_of_beq_eq_true h0.2.1,h0.2.2,h4,h5,h6⟩
theorem lH {tb:List Nat} {n:Nat} {t:Fr}:WkP tb n t []=True:=nr rfl
theorem gQ {tb:List Nat} {n:Nat} {t t':Fr} {i:Nat} {d:DV}:WkP tb n t ((i,d)::t')=((look t i=d.rn tb 0∧aL n d=true)∧WkP tb n t t'):=nr rfl
theorem fQ {tb:List Nat} {n0 i:Nat} {h:aB}:yU tb n0 h i []=True:=nr rfl
theorem rI {tb:List Nat} {n0 i:Nat} {h l:aB}:yU tb n0 h i (.dead::l)=yU tb n0 h (i+1) l:=nr rfl
theorem gU {tb:List Nat} {n0 i:Nat} {h l:aB} {c:List CV}:yU tb n0 h i (.box c::l)=((h[rn tb 0 i]? = some (DB.rn tb 0 (.box c))∧(Nat.ble n0 i || Nat.beq (rn tb 0 i) i)=true)∧yU tb n0 h (i+1) l):=nr rfl
theorem fP {tb:List Nat} {n0 i k:Nat} {h l:aB} {es:List (List PV)} {ro:Bool}:yU tb n0 h i (.arr k es ro::l)=((h[rn tb 0 i]? = some (DB.rn tb 0 (.arr k es ro))∧(Nat.ble n0 i || Nat.beq (rn tb 0 i) i)=true)∧yU tb n0 h (i+1) l):=nr rfl
theorem lX {tb:List Nat} {n0 i:Nat} {h l:aB} {es:List (Int × PV)}:yU tb n0 h i (.mp es::l)=((h[rn tb 0 i]? = some (DB.rn tb 0 (.mp es))∧(Nat.ble n0 i || Nat.beq (rn tb 0 i) i)=true)∧yU tb n0 h (i+1) l):=nr rfl
variable {P:Program} {T:Tab} {X0:Ctx} {s:DS} {Q:Exit→DS→Prop}
def zFF {α:Type} (n0:Nat) (I:α→DS) (J:α→Prop) (μ:α→Nat) (x:α) (Q:Exit→DS→Prop):Exit→DS→Prop:=fun e s'=>match e with
 | .normal=>∃ y,J y∧μ y < μ x∧(DY n0 s' (I y)∨WG n0 s' (I y))
 | e=>Q e s'
theorem zKd {α:Type} {n0:Nat} {I:α→DS} {J:α→Prop} {μ:α→Nat} {x:α} {id:Nat} {s:DS}:zFF n0 I J μ x Q (.exit id) s=Q (.exit id) s:=nr rfl
theorem zKe {α:Type} {n0:Nat} {I:α→DS} {J:α→Prop} {μ:α→Nat} {x:α} {s:DS}:zFF n0 I J μ x Q .ret s=Q .ret s:=nr rfl
end perm
attribute [go_sem] zKd zKe
theorem aA.perm {P:Program} {f:FuncId} {args:List DV} {h h1 h2:aB} {d1 d2:DV} (tb:List Nat) (hc:aA P f args h fun d h'=>d=d1∧h'=h1) (hd:d1=d2.rn tb 0)
  (h0:(Nat.ble h.length h2.length && (Nat.beq h2.length tb.length && (nR tb && (h2.all (bK h2.length) && aL h2.length d2))))=true) (h4:yU tb h.length h1 0 h2):aA P f args h fun d h'=>d=d2∧h'=h2:=by
 simp only [Bool.and_eq_true] at h0;intro X vals hh hi gd hr;have key:∀ v w',Ret X (fun d h'=>d=d1∧h'=h1) v w'→Ret X (fun d h'=>d=d2∧h'=h2) v w':=by
  rintro v w' ⟨d,Z,k1,k2,k3,k4,k5,k6⟩;rw [← k6] at h4;obtain ⟨g1,g2,g3⟩:=CO (h:=h2) (congrArg List.length hh) k2 k3 (Nat.le_of_ble_eq_true h0.1) (Nat.eq_of_beq_eq_true h0.2.1) h0.2.2.1 h4 h0.2.2.2.1;refine ⟨d2,Dm.perm Z tb h2,k1,g1,g2,?_,rfl,rfl⟩;rw [k5,hd] at k4;exact aX.pull g3 h0.2.2.2.2 k4
 rcases hc X vals hh hi gd hr with ⟨h1,h2⟩|⟨v,w',h1,h2⟩
 ·exact .inl ⟨h1,h2.mono fun e w' ⟨v,he,hv⟩=>⟨v,he,key v w' hv⟩⟩
 ·exact .inr ⟨v,w',h1,key v w' h2⟩
end Go.Dm
end
