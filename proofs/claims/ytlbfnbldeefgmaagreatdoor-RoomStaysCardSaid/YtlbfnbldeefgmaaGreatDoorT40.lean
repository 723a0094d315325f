/- Part 41 of the proof of roomStays_card, set without needless blanks. No condition. -/
import Derived.Test.YtlbfnbldeefgmaaGreatDoorT14
import Derived.StringKeys
set_option linter.all false
set_option maxRecDepth 100000
set_option maxHeartbeats 16000000
section
namespace Go.Dm
open Go Go.MapKept Go.WideMaps Go.WideShapes
section
variable {k:List UInt8}{P:Program}{ks:List (List UInt8)}{w:World}{b:Nat}
def GH(k:List UInt8):Value:=.string ⟨k.toArray⟩
theorem ZP{k':List UInt8}(h:GH k=GH k'):k=k':=by
 simp only[GH,Value.string.injEq,ByteArray.mk.injEq] at h;exact List.toArray_inj h
def sL(w:World)(b:Nat)(ks:List (List UInt8)):Prop:=∃es clock,w.heap[b]?=some (.map es clock) /\
 (∀e∈es.toList,∃k∈ks,e.key=GH k/\e.val=.bool true)/\∀k∈ks,k.length<=maxLen/\∃e∈es.toList,e.key=GH k
theorem sL.keys{kt:TypeId}(hk:P.underlying kt=some .string){es:Array MapEntry}(h1:∀e∈es.toList,∃k∈ks,e.key=GH k/\e.val=.bool true)(h2:∀k∈ks,k.length<=maxLen/\∃e∈es.toList,e.key=GH k):
  ∀e∈es.toList,∃l,keyOf P kt e.key=some l:=λe he=>by
 obtain⟨k,hk',he1,_⟩:=h1 e he;rw[he1];exact⟨_,keyOf_string_mk hk (by show k.toArray.size<=maxLen;simpa using (h2 k hk').1)⟩
theorem zIR{t kt et:TypeId}(ht:P.underlying t=some (.map kt et))(hk:P.underlying kt=some .string)(hz:(zeroValue et).run P w=.ok (.bool false) w)(h:sL w b ks)(hl:k.length<=maxLen):
  (Instr.lookup t (.map (some b)) (GH k) false).run P w=.ok (.bool (ks.contains k)) w:=by
 obtain⟨es,clock,hb,h1,h2⟩:=h;have K:=string_law hk;have hkey:keyOf P kt (GH k)=some (.string k):=keyOf_string_mk hk (by show k.toArray.size<=maxLen;simpa using hl);rcases K.find w hkey es.toList (sL.keys hk h1 h2) with⟨f1,f2⟩|⟨j,e,f1,f2,f3⟩
 .have hc:ks.contains k=false:=by
   rw[Bool.eq_false_iff];intro hc;obtain⟨_,e,he,hek⟩:=h2 k (by simpa using hc);exact f2 e he hek
  rw[hc];simp[Instr.lookup,run_underlying ht,MapKept.run_getObj_map hb,K.check w _ hkey,f1,hz,Result.andThen]
 .obtain⟨k',hk',he1,he2⟩:=h1 e (List.mem_of_getElem? f2);have:k'=k:=ZP (he1.symm.trans f3);subst this;have hc:ks.contains k'=true:=by simpa using hk'
  rw[hc];simp[Instr.lookup,run_underlying ht,MapKept.run_getObj_map hb,K.check w _ hkey,f1,he2,Result.andThen]
theorem zLZ{t kt et:TypeId}(ht:P.underlying t=some (.map kt et))(hk:P.underlying kt=some .string)(h:sL w b ks)(hl:k.length<=maxLen):
  ∃o,(Instr.mapUpdate t (.map (some b)) (GH k) (.bool true)).run P w=.ok () { w with heap:=w.heap.setIfInBounds b o }/\sL { w with heap:=w.heap.setIfInBounds b o } b (k::ks):=by
 obtain ⟨es,clock,hb,h1,h2⟩:=h;have K:=string_law hk;have hlt:b<w.heap.size:=(Array.getElem?_eq_some_iff.1 hb).1;have hat:∀o:Obj,({ w with heap:=w.heap.setIfInBounds b o }:World).heap[b]?=some o:=λo=>by
  show (w.heap.setIfInBounds b o)[b]?=some o;rw[Array.getElem?_setIfInBounds_self_of_lt hlt]
 have hkey:keyOf P kt (GH k)=some (.string k):=keyOf_string_mk hk (by show k.toArray.size<=maxLen;simpa using hl);rcases K.find w hkey es.toList (sL.keys hk h1 h2) with⟨f1,f2⟩|⟨j,e,f1,f2,f3⟩
 .refine ⟨.map (es.push { key:=GH k,val:=.bool true,born:=clock }) (clock+1),?_,_,_,hat _,λe he=>?_,λk' hk'=>?_⟩
  .simp[Instr.mapUpdate,run_underlying ht,MapKept.run_getObj_map hb,K.check w _ hkey,f1,MapKept.run_setObj_map _ hb,Result.andThen]
  .simp only[Array.toList_push,List.mem_append,List.mem_singleton] at he;rcases he with he|rfl
   .obtain⟨k',g1,g2⟩:=h1 e he;exact⟨k',List.mem_cons_of_mem _ g1,g2⟩
   .exact⟨k,List.mem_cons_self,rfl,rfl⟩
  .rcases List.mem_cons.1 hk' with rfl|hk'
   .exact⟨hl,{ key:=GH k',val:=.bool true,born:=clock },by simp,rfl⟩
   .obtain⟨g1,e,g2,g3⟩:=h2 k' hk';exact⟨g1,e,by simp at g2 ⊢;exact .inl g2,g3⟩
 .have hj:es[j]?=some e:=by simpa using f2
  obtain⟨k',hk',he1,he2⟩:=h1 e (List.mem_of_getElem? f2);have:k'=k:=ZP (he1.symm.trans f3);subst this;refine⟨.map (es.modify j λe=>{ e with key:=GH k',val:=.bool true }) clock,?_,_,_,hat _,λe' he=>?_,λk2 hk2=>?_⟩
  .have hs:(Instr.keyThatStays (GH k') (GH k')).run P w=.ok (GH k') w:=K.stays w hkey;simp[Instr.mapUpdate,run_underlying ht,MapKept.run_getObj_map hb,K.check w _ hkey,f1,hj,f3,hs,MapKept.run_setObj_map _ hb,Result.andThen]
  .obtain ⟨i,hi⟩:=List.mem_iff_getElem?.1 he;rw[Array.getElem?_toList,Array.getElem?_modify] at hi;split at hi
   .cases hx:es[i]? with
    | none=>rw[hx] at hi;cases hi
    | some x =>
     rw[hx] at hi;simp only[Option.map_some,Option.some.injEq] at hi;subst hi;exact⟨k',List.mem_cons_self,rfl,rfl⟩
   .obtain⟨k2,g1,g2⟩:=h1 e' (List.mem_iff_getElem?.2 ⟨i,by rw[Array.getElem?_toList];exact hi⟩)
    exact⟨k2,List.mem_cons_of_mem _ g1,g2⟩
  .have key:k2.length<=maxLen/\∃e∈es.toList,e.key=GH k2:=by
    rcases List.mem_cons.1 hk2 with rfl|hk2
    .exact⟨hl,e,List.mem_of_getElem? f2,f3⟩
    .exact h2 k2 hk2
   obtain⟨g1,e2,g2,g3⟩:=key;refine⟨g1,?_⟩;obtain⟨i,hi⟩:=List.mem_iff_getElem?.1 g2;rw[Array.getElem?_toList] at hi;by_cases hij:j=i
   .subst hij;rw[hj] at hi;cases hi;refine⟨{ e with key:=GH k',val:=.bool true },List.mem_iff_getElem?.2 ⟨j,?_⟩,f3.symm.trans g3⟩;rw[Array.getElem?_toList,Array.getElem?_modify,if_pos rfl,hj];rfl
   .refine⟨e2,List.mem_iff_getElem?.2 ⟨i,?_⟩,g3⟩;rw[Array.getElem?_toList,Array.getElem?_modify,if_neg hij,hi]
def oJ(X:Ctx)(b:Nat):Prop:=b<X.w.heap.size/\¬ X.S b/\∀id db g,X.h[id]?=some db->db.live=true->X.G id=some g->g.1≠b
theorem oJ.step{X X':Ctx}(ha:oJ X b)(hi':HInv X')(hs:Step X X'):oJ X' b/\X'.w.heap[b]?=X.w.heap[b]? := by
 obtain ⟨h1,h2,h3⟩:=ha;have hS:¬ X'.S b:=λh=>by
  rcases hs.upper b h with h|h|⟨id,db,g,hd,hl,hg,e⟩
  .exact h2 h
  .omega
  .exact h3 id db g hd hl hg e
 refine⟨⟨Nat.lt_of_lt_of_le h1 hs.size,hS,λid db g hd hl hg e=>?_⟩,hs.frame b h1 λid db g hd hl _ hg=>h3 id db g hd hl hg⟩;cases hf:db.fix
 .rcases hs.mine id db g hd hl hf hg with h|⟨id0,db0,g0,hd0,hl0,_,hg0,e0⟩
  .omega
  .exact h3 id0 db0 g0 hd0 hl0 hg0 (e0.trans e)
 .exact hS (e▸(hi'.own id db g hd hl hg).2 hf)
theorem sL.same{w':World}(h:sL w b ks)(e:w'.heap[b]?=w.heap[b]?):sL w' b ks:=by
 obtain⟨es,c,h1,h2⟩:=h;exact⟨es,c,e.trans h1,h2⟩
section put
variable {X:Ctx}{b:Nat}{o:Obj}
variable {v:Value}
def Ctx.setB(X:Ctx)(b:Nat)(o:Obj):Ctx:=X.at_ { X.w with heap:=X.w.heap.setIfInBounds b o }
theorem nW{c:Nat}(h:c≠b):(X.setB b o).w.heap[c]?=X.w.heap[c]? := by
 show (X.w.heap.setIfInBounds b o)[c]? = _;rw[Array.getElem?_setIfInBounds_ne (Ne.symm h)]
theorem lD(ha:oJ X b):Kept X.w (X.setB b o).w X.S X.S:=λc hc=>⟨hc,nW λe=>ha.2.1 (e▸hc)⟩
theorem zFI(ha:oJ X b){x:KV}(h:rB X x v):rB (X.setB b o) x v:=by
 cases x<;>simp only[rB] at h ⊢
 case p=>exact dF.kept (lD ha) h
 case ptr=>exact h
theorem FN(ha:oJ X b):∀{xs:List KV} {vs:List Value},fL X xs vs->fL (X.setB b o) xs vs
 | [],[],_=>True.intro
 | _::_,_::_,h=>⟨zFI ha h.1,FN ha h.2⟩
 | [],_::_,h=>h.elim
 | _::_,[],h=>h.elim
theorem uA(ha:oJ X b){x:CV}(h:bV X x v):bV (X.setB b o) x v:=by
 cases x<;>simp only[bV] at h ⊢
 case p=>exact dF.kept (lD ha) h
 case own id off len =>
  obtain⟨h1,h2,h3⟩:=h;refine⟨h1,h2,λk es ro hd=>?_⟩;obtain⟨h4,h5⟩:=h3 k es ro hd;refine⟨h4,?_⟩;show match X.G id with|none=>_|some g=>_
  cases hg:X.G id with
  | none=>rw[hg] at h5;exact h5
  | some g =>
   rw[hg] at h5;obtain⟨cap,q,arr,el,fz,h6,h7⟩:=h5;exact⟨cap,q,arr,el,fz,(nW (ha.2.2 id _ g hd rfl hg)).trans h6,h7⟩
 case ptr=>exact h
 case aptr=>exact h
 case mp=>exact h
 case bs=>exact h
 case eptr =>
  obtain⟨bl,off,h1,h2,h3⟩:=h;exact⟨bl,off,h1,h2,gW.kept (lD ha) h2 h3⟩
 case full =>
  obtain⟨a,h1,h2⟩:=h;refine⟨a,h1,h2.imp id ?_⟩;rintro⟨bl,off,h3,h4,h5⟩;exact⟨bl,off,h3,h4,fC.kept (lD ha) h4 h5⟩
 case clo =>
  obtain⟨vs,h1,h2⟩:=h;exact⟨vs,h1,FN ha h2⟩
theorem vT(ha:oJ X b):∀{xs:List CV} {vs:List Value},bC X xs vs->bC (X.setB b o) xs vs
 | [],[],_=>True.intro
 | _::_,_::_,h=>⟨uA ha h.1,vT ha h.2⟩
 | [],_::_,h=>h.elim
 | _::_,[],h=>h.elim
theorem zBv(ha:oJ X b){x:EV}(h:eD X x v):eD (X.setB b o) x v:=by
 cases x<;>simp only[eD] at h ⊢
 case c=>exact uA ha h
 case agg=>obtain⟨vs,h1,h2⟩:=h;exact⟨vs,h1,vT ha h2⟩
theorem BN(ha:oJ X b):∀{xs:List EV} {vs:List Value},cP X xs vs->cP (X.setB b o) xs vs
 | [],[],_=>True.intro
 | _::_,_::_,h=>⟨zBv ha h.1,BN ha h.2⟩
 | [],_::_,h=>h.elim
 | _::_,[],h=>h.elim
theorem zFH(ha:oJ X b){x:DV}(h:bA X x v):bA (X.setB b o) x v:=by
 cases x<;>simp only[bA] at h ⊢
 case c=>exact uA ha h
 case agg=>obtain⟨vs,h1,h2⟩:=h;exact⟨vs,h1,vT ha h2⟩
 case tup=>obtain⟨vs,h1,h2⟩:=h;exact⟨vs,h1,BN ha h2⟩
theorem zFG(ha:oJ X b){id:Nat}{db:DB}(hd:X.h[id]?=some db)(h:eC X id db):eC (X.setB b o) id db:=by
 cases db<;>simp only[eC] at h ⊢
 case box =>
  obtain⟨g,arr,el,fz,h1,h2,h3,h4,h5⟩:=h;have hb:(X.setB b o).w.heap[g.1]?=X.w.heap[g.1]? := nW (ha.2.2 id _ g hd rfl h1);refine⟨g,arr,el,fz,h1,hb.trans h2,h3,h4,cY.mk λj c hj=>?_⟩;obtain⟨v,g1,g2⟩:=h5.at_ hj;exact⟨v,by rw[World.cell?_of_block (a:=⟨g.1,g.2+j,none⟩) hb];exact g1,uA ha g2⟩
 case arr =>
  rcases h with h|⟨g,arr,el,fz,h1,h2,h3,h4,h5⟩
  .exact .inl h
  .have hb:(X.setB b o).w.heap[g.1]?=X.w.heap[g.1]? := nW (ha.2.2 id _ g hd rfl h1);exact .inr ⟨g,arr,el,fz,h1,hb.trans h2,h3,h4,h5.move (lD ha) hb⟩
 case mp =>
  obtain⟨g,ms,c,h1,h2,h3,h4⟩:=h;have hb:(X.setB b o).w.heap[g.1]?=X.w.heap[g.1]? := nW (ha.2.2 id _ g hd rfl h1);exact⟨g,ms,c,h1,hb.trans h2,h3.kept (lD ha),h4⟩
theorem HInv.setB(hi:HInv X)(ha:oJ X b):HInv (X.setB b o) where
 slt:=λc hc=>by
  show c<(X.w.heap.setIfInBounds b o).size;rw[Array.size_setIfInBounds];exact hi.slt c hc
 blk:=λid db h=>zFG ha h (hi.blk id db h)
 own:=hi.own
 inj:=hi.inj
theorem oJ.setB(ha:oJ X b):oJ (X.setB b o) b :=
 ⟨by show b<(X.w.heap.setIfInBounds b o).size;rw[Array.size_setIfInBounds];exact ha.1,ha.2⟩
theorem Step.setB{X0:Ctx}(hs:Step X0 X)(h0:X0.w.heap.size<=b)(ha:oJ X b):Step X0 (X.setB b o) where
 size:=by
  show _<=(X.w.heap.setIfInBounds b o).size;rw[Array.size_setIfInBounds];exact hs.size
 os:=hs.os
 tape:=hs.tape
 output:=hs.output
 kept:=λc hc=>⟨(hs.kept c hc).1,(nW (show c≠b from λe=>ha.2.1 (e▸(hs.kept c hc).1))).trans (hs.kept c hc).2⟩
 len:=hs.len
 ids:=λid db' hid hd hl=>by
  obtain⟨db,h1,h2,h3,h4⟩:=hs.ids id db' hid hd hl;exact⟨db,h1,h2,h3,λg hg=>by rw[nW (ha.2.2 id db' g hd hl (h3.trans hg))];exact h4 g hg⟩
 frame:=λc hc hn=>(nW (by omega)).trans (hs.frame c hc hn)
 mine:=hs.mine
 upper:=hs.upper
theorem TInv.setB{s:DS}{a:Act}(ha:oJ X b)(ht:TInv X s a):TInv (X.setB b o) s a:=⟨ht.size,λi=>zFH ha (ht.rel i),ht.defs⟩
end put
end
end Go.Dm
end
section
namespace Go.Dm
open Go
section
section rules
variable {P:Program}{T:Tab}{X0:Ctx}{b:Nat}
theorem gC(hT:bF P T)(gd:Gnd P X0){ops:Array Oper}{l2:List Oper}{Q':Exit->Act->World->Prop}:∀(l:List Oper) {s:DS} {X:Ctx} {a:Act},X.h=s.h->HInv X->Step X0 X->TInv X s a ->
  jP P T ops l s (λs'=>∀X' a',X'.h=s'.h->HInv X'->Step X0 X'->TInv X' s' a'->wpList P ops Q' l2 a' X'.w)->wpList P ops Q' (l++l2) a X.w
 | [],s,X,a,hh,hi,hs,ht,h=>h X a hh hi hs ht
 | o::rest,s,X,a,hh,hi,hs,ht,h=>by
  refine wpList_step λK hK=>?_;have go:dop P T o.op s.t s.h (λd h'=>jP P T ops rest (s.put o.dst d h') (λs'=>∀X' a',X'.h=s'.h->HInv X'->Step X0 X'->TInv X' s' a'->wpList P ops Q' l2 a' X'.w))->o.wp P a X.w K Q':=by
   intro hd;rw[<- hh] at hd;refine zM hT hi (gd.step hs) ht.ev hd λd v X' h1 h2 h3 h4=>hK _ _ ?_;refine gC hT gd rest (s:=s.put o.dst d X'.h) ?_ h1 (hs.trans hi h2) ?_ h4
   .unfold DS.put;split<;>(try split)<;>rfl
   .exact(ht.step h2).put h3 o.dst X'.h
  have skip:jP P T ops rest (s.put o.dst (.tup []) s.h) (λs'=>∀X' a',X'.h=s'.h->HInv X'->Step X0 X'->TInv X' s' a'->wpList P ops Q' l2 a' X'.w)->K (a.put o.dst undef) X.w:=by
   intro hd;refine hK _ _ (gC hT gd rest (s:=s.put o.dst (.tup []) s.h) (by rw[hh];unfold DS.put;split<;>(try split)<;>rfl) hi hs (ht.put (d:=.tup []) (v:=undef) ⟨[],rfl,True.intro⟩ o.dst s.h) hd)
  simp only[jP] at h;split at h
  .rename_i hg;rw[if_pos (by simp[Region.wanted,hg])];exact go h
  .rename_i j want hg;have hy:∀d,((ops[j]?).bind (·.dst)).map (λi=>look s.t i)=some d->∃i,(ops[j]?).bind (·.dst)=some i/\bA X d (a.tmps.getD i undef):=by
    intro d hd;obtain⟨i,h1,h2⟩:=Option.map_eq_some_iff.1 hd;exact⟨i,h1,h2▸ht.rel i⟩
   split at h
   .rename_i v hd;obtain⟨i,h1,h3⟩:=hy _ hd;simp only[bA,bV,dF] at h3;have hv:a.tmps[i]?=some (.bool v):=by
     rcases Nat.lt_or_ge i a.tmps.size with hlt'|hge
     .rw[Array.getElem?_eq_getElem hlt'];simp only[Array.getD,hlt',dif_pos] at h3
      congr 1
     .rw[Array.getD_eq_getD_getElem?,Array.getElem?_eq_none hge] at h3;cases h3
    have hyd:yielded ops a.tmps j=some v:=by
     unfold yielded;rw[h1];simp only[Option.bind_some,hv]
    by_cases hw:v=want
    .rw[if_pos (by simp[Region.wanted,hg,hyd,hw])];exact go (h.1 hw)
    .rw[if_neg (by simp[Region.wanted,hg,hyd,hw])];exact skip (h.2 hw)
   .rename_i hd;obtain⟨i,h1,vs,hv,hr⟩:=hy _ hd;have hvs:vs=[]:=by
     cases vs with
     | nil=>rfl
     | cons _ _=>exact hr.elim
    subst hvs;have hyd:yielded ops a.tmps j=none:=by
     unfold yielded;rw[h1];simp only[Option.bind_some];rw[Array.getD_eq_getD_getElem?] at hv;cases hx:a.tmps[i]? with
     | none=>rfl
     | some u=>rw[hx] at hv;simp only[Option.getD_some] at hv;rw[hv]
    rw[if_neg (by simp[Region.wanted,hg,hyd])];exact skip h
   .exact h.elim
def zPf(b:Nat)(X0:Ctx)(Q:List (List UInt8)->Exit->DS->Prop):Exit->Act->World->Prop:=λe a w =>
 ∃s X ks,Q ks e s/\X.w=w/\X.h=s.h/\HInv X/\Step X0 X/\TInv X s a/\oJ X b/\sL X.w b ks
def DQ(P:Program)(b:Nat)(X0:Ctx)(c:Code)(s:DS)(ks:List (List UInt8))(Q:List (List UInt8)->Exit->DS->Prop):Prop :=
 Gnd P X0->X0.w.heap.size<=b->∀(X:Ctx) (a:Act),X.h=s.h->HInv X->Step X0 X->TInv X s a->oJ X b->sL X.w b ks->c.wp P (zPf b X0 Q) a X.w
def zNc(P:Program)(b:Nat)(X0:Ctx)(y:Code)(ks:List (List UInt8))(Q:List (List UInt8)->Exit->DS->Prop):Exit->DS->Prop:=λe s'=>match e with
 | .normal=>DQ P b X0 y s' ks Q
 | e=>Q ks e s'
variable {s:DS}{ks:List (List UInt8)}{Q:List (List UInt8)->Exit->DS->Prop}
theorem zO9{y:Code}{s:DS}:zNc P b X0 y ks Q .normal s=DQ P b X0 y s ks Q:=nr rfl
theorem qm_r{y:Code}{s:DS}:zNc P b X0 y ks Q .ret s=Q ks .ret s:=nr rfl
theorem qm_e{y:Code}{id:Nat}{s:DS}:zNc P b X0 y ks Q (.exit id) s=Q ks (.exit id) s:=nr rfl
theorem zMJ{c:Code}(h:∀X1:Ctx,X1.h=s.h->SWP P X1 c s (Q ks)):DQ P b X0 c s ks Q:=λgd _ X a hh hi hs ht ha hm =>
 wp_mono (h X hh (gd.step hs) X a hh hi (Step.refl hi) ht) λe a w ⟨s',X',h1,h2,h3,h4,h5,h6⟩=>by
  obtain⟨g1,g2⟩:=ha.step h4 h5;exact⟨s',X',ks,h1,h2,h3,h4,hs.trans hi h5,h6,g1,hm.same g2⟩
theorem jO(hT:bF P T)(hm:P.follows .mixedOrders=true){c:Code}(h:∀X1:Ctx,X1.h=s.h->vc P T X1 c s (Q ks)):DQ P b X0 c s ks Q :=
 zMJ λX1 h1=>dX hT hm c (h X1 h1)
theorem nZ{x y:Code}(h:DQ P b X0 x s ks λks'=>zNc P b X0 y ks' Q):DQ P b X0 (.seq x y) s ks Q:=by
 intro gd hb X a hh hi hs ht ha hm;refine wp_seq (wp_mono (h gd hb X a hh hi hs ht ha hm) λe a w hp=>?_);obtain⟨s',X',k,h1,rfl,h3,h4,h5,h6,h7,h8⟩:=hp;cases e<;>simp only[Exit.then,zNc] at h1 ⊢
 case normal=>exact h1 gd hb X' a h3 h4 h5 h6 h7 h8
 all_goals exact⟨s',X',k,h1,rfl,h3,h4,h5,h6,h7,h8⟩
theorem cX(hT:bF P T)(hm:P.follows .mixedOrders=true){x y:Code}(h:∀X1:Ctx,X1.h=s.h->vc P T X1 x s (zNc P b X0 y ks Q)):DQ P b X0 (.seq x y) s ks Q :=
 nZ (jO hT hm h)
theorem qQ{id:Nat}{c:Code}(h:DQ P b X0 c s ks λks'=>mT id (Q ks')):DQ P b X0 (.block id c) s ks Q:=by
 intro gd hb X a hh hi hs ht ha hm;refine wp_block (wp_mono (h gd hb X a hh hi hs ht ha hm) λe a w hp=>?_);obtain⟨s',X',k,h1,rfl,h3,h4,h5,h6,h7,h8⟩:=hp;cases e<;>simp only[Exit.inBlock,mT] at h1 ⊢
 case exit id' =>
  split
  .rename_i he;rw[if_pos he] at h1;exact⟨s',X',k,h1,rfl,h3,h4,h5,h6,h7,h8⟩
  .rename_i he;rw[if_neg he] at h1;exact⟨s',X',k,h1,rfl,h3,h4,h5,h6,h7,h8⟩
 all_goals exact⟨s',X',k,h1,rfl,h3,h4,h5,h6,h7,h8⟩
theorem zBY{c:Code}{Q':Exit->DS->Prop}(h:DQ P b X0 c s ks λ_=>Q'):Gnd P X0->X0.w.heap.size<=b->∀(X:Ctx) (a:Act),X.h=s.h->HInv X->Step X0 X->TInv X s a->oJ X b->sL X.w b ks->c.wp P (zCc X0 Q') a X.w:=λgd hb X a hh hi hs ht ha hm =>
 wp_mono (h gd hb X a hh hi hs ht ha hm) λ_ _ _ ⟨s',X',_,h1,h2,h3,h4,h5,h6,_,_⟩=>⟨s',X',h1,h2,h3,h4,h5,h6⟩
theorem oJ.cut{X:Ctx}(ha:oJ X b)(n:Nat):oJ (X.cut n) b:=⟨ha.1,ha.2.1,λid db g hd hl hg=>ha.2.2 id db g (fM hd).1 hl hg⟩
theorem oJ.ren{X:Ctx}(ha:oJ X b){p q:Nat}(hpq:p≠q){k:Nat}{es:List (List PV)}(hq:X.h[q]?=some (.arr k es false)):oJ (X.ren p q) b:=⟨ha.1,ha.2.1,λid db g hd hl hg=>by
 rcases iD hpq hd hl with⟨rfl,h1,_⟩|⟨h1,h2,x,h3,rfl⟩
 .simp only[Ctx.ren,if_true] at hg;exact ha.2.2 q _ g h1 hl hg
 .simp only[Ctx.ren,if_neg h1] at hg;refine ha.2.2 id x g h3 ?_ hg;cases x<;>simp_all[DB.live,renB]⟩
theorem DR.useA{n0:Nat}{s s':DS}(h:DR n0 s s'){X0 X:Ctx}{a:Act}(hn:X0.h.length=n0)(hh:X.h=s.h)(hi:HInv X)(hs:Step X0 X)(ht:TInv X s a)(ha:oJ X b):∃X',X'.w=X.w/\X'.h=s'.h/\HInv X'/\Step X0 X'/\TInv X' s' a/\oJ X' b:=by
 obtain⟨h0,h1,h2,h3,h4⟩:=h;have hcut:(X.cut s'.h.length).h=s'.h:=by simp only[Ctx.cut];rw[hh];exact h2.symm
 refine⟨X.cut s'.h.length,rfl,hcut,hi.cut (by rw[hh,<- h2];exact h3),hs.cut (by omega),⟨ht.size.trans h0.symm,λi=>?_,ht.defs⟩,ha.cut _⟩;rcases h4.look i with h5|⟨h5,h6⟩
 .rw[h5];exact True.intro
 .have:=ht.rel i;rw[<- h5] at this;exact this.cut h6
theorem xA.useA{n0:Nat}{s s':DS}(h:xA n0 s s'){X0 X:Ctx}{a:Act}(hn:X0.h.length=n0)(hh:X.h=s.h)(hi:HInv X)(hs:Step X0 X)(ht:TInv X s a)(ha:oJ X b):∃X',X'.w=X.w/\X'.h=s'.h/\HInv X'/\Step X0 X'/\TInv X' s' a/\oJ X' b:=by
 rcases h with h|⟨p,q,kb,eb,hab,h0,h1,hp,hq,h⟩
 .exact h.useA hn hh hi hs ht ha
 .rw[<- hh] at hp hq;refine h.useA (X:=X.ren p q) hn ?_ (hi.ren hab hq hp) (hs.ren hab (by omega) (by omega)) ⟨ht.size,λi=>?_,ht.defs⟩ (ha.ren hab hq)
  .simp only[Ctx.ren,DS.ren,hh]
  .simp only[DS.ren];rw[JI];exact(ht.rel i).ren hab hq hp
def PW{α:Type}(n0:Nat)(I:α->DS)(Kf:α->List (List UInt8))(J:α->Prop)(μ:α->Nat)(x:α)(Q:List (List UInt8)->Exit->DS->Prop)(ks:List (List UInt8)):Exit->DS->Prop:=λe s'=>match e with
 | .normal=>∃y,J y/\μ y < μ x/\ks=Kf y/\xA n0 s' (I y)
 | e=>Q ks e s'
theorem RO{α:Type}{c:Code}(I:α->DS)(Kf:α->List (List UInt8))(J:α->Prop)(μ:α->Nat)(x0:α)(hJ:J x0)(hk:ks=Kf x0)(hw:xA X0.h.length s (I x0))
  (h:∀x,J x->DQ P b X0 c (I x) (Kf x) (PW X0.h.length I Kf J μ x Q)):DQ P b X0 (.loop c) s ks Q:=by
 intro gd hb X a hh hi hs ht ha hm;obtain⟨X',h1,h2,h3,h4,h5,h6⟩:=hw.useA rfl hh hi hs ht ha;rw[<- h1] at hm ⊢;refine wp_loop_ghost (λn a w=>∃x X,μ x=n/\J x/\X.w=w/\X.h=(I x).h/\HInv X/\Step X0 X/\TInv X (I x) a/\oJ X b/\sL X.w b (Kf x)) (μ x0) ⟨x0,X',rfl,hJ,rfl,h2,h3,h4,h5,h6,hk▸hm⟩ ?_;rintro n a' w' ⟨x,Y,rfl,k1,rfl,k2,k3,k4,k5,k6,k7⟩;refine wp_mono (h x k1 gd hb Y a' k2 k3 k4 k5 k6 k7) λe a w hp=>?_;obtain⟨s',Z,k,p1,rfl,p3,p4,p5,p6,p7,p8⟩:=hp;cases e<;>simp only[Exit.then,PW] at p1 ⊢
 case normal =>
  obtain⟨y,q1,q2,rfl,q3⟩:=p1;obtain⟨Z',r1,r2,r3,r4,r5,r6⟩:=q3.useA rfl p3 p4 p5 p6 p7;exact⟨μ y,q2,y,Z',rfl,q1,r1,r2,r3,r4,r5,r6,r1▸p8⟩
 all_goals exact⟨s',Z,k,p1,rfl,p3,p4,p5,p6,p7,p8⟩
theorem zJh{α:Type}{n0:Nat}{I:α->DS}{Kf:α->List (List UInt8)}{J:α->Prop}{μ:α->Nat}{x:α}{s:DS}(y:α)(h1:J y)(h2:μ y < μ x)(h3:ks=Kf y)(h4:xA n0 s (I y)):PW n0 I Kf J μ x Q ks .normal s:=⟨y,h1,h2,h3,h4⟩
theorem zPM{α:Type}{n0:Nat}{I:α->DS}{Kf:α->List (List UInt8)}{J:α->Prop}{μ:α->Nat}{x:α}{s:DS}:PW n0 I Kf J μ x Q ks .ret s=Q ks .ret s:=nr rfl
theorem zPL{α:Type}{n0:Nat}{I:α->DS}{Kf:α->List (List UInt8)}{J:α->Prop}{μ:α->Nat}{x:α}{id:Nat}{s:DS}:PW n0 I Kf J μ x Q ks (.exit id) s=Q ks (.exit id) s:=nr rfl
theorem YS{X:Ctx}(hi:HInv X){w':World}{o:Obj}(hw:Grew X.w w' o):HInv (X.at_ w')/\Step X (X.at_ w')/\oJ (X.at_ w') X.w.heap.size:=by
 have hst:Step X (X.at_ w'):={
  size:=by simp only[Ctx.at_,hw.size];omega
  os:=hw.os
  tape:=hw.tape
  output:=hw.output
  kept:=λc hc=>⟨hc,hw.old (hi.slt c hc)⟩
  len:=Nat.le_refl _
  ids:=λid db' _ h hl=>⟨db',h,cG.refl hl,rfl,λg hg=>by
   have:=(hi.blk id db' h).same hl g hg;show uV _ (w'.heap[g.1]?);rw[hw.old (hi.block_lt h hl hg)];exact this⟩
  frame:=λc hc _=>hw.old hc
  mine:=λid db g h hl hf hg=>.inr ⟨id,db,g,h,hl,hf,hg,rfl⟩
  upper:=λ_ h=>.inl h }
 refine⟨⟨λc hc=>Nat.lt_of_lt_of_le (hi.slt c hc) hst.size,λid db h=>?_,hi.own,hi.inj⟩,hst,by simp only[Ctx.at_,hw.size];omega,λhc=>absurd (hi.slt _ hc) (Nat.lt_irrefl _),λid db g h hl hg e=>absurd (hi.block_lt h hl hg) (by omega)⟩
 cases hl:db.live
 .cases db<;>simp_all[DB.live,eC]
 .exact(hi.blk id db h).move hst rfl λg hg=>hw.old (hi.block_lt h hl hg)
theorem MU{X:Ctx}{s:DS}{a:Act}(ht:TInv X s a){m:Operand}{v:Value}(h:evD s.t m=.c (.p (.o v))):a.eval m=v:=by
 have:=ht.ev m;rw[h] at this;simp only[bA,bV,dF] at this;exact this.1
theorem zKh{X:Ctx}{s:DS}{a:Act}(ht:TInv X s a){m:Operand}{k:List UInt8}(h:evD s.t m=.c (.p (.s k))):a.eval m=GH k:=by
 have:=ht.ev m;rw[h] at this;simp only[bA,bV,dF] at this;exact this
theorem zLA{X:Ctx}{s:DS}{a:Act}(ht:TInv X s a){m:Operand}{k:Bool}(h:evD s.t m=.c (.p (.b k))):a.eval m=.bool k:=by
 have:=ht.ev m;rw[h] at this;simp only[bA,bV,dF] at this;exact this
theorem zJI(hT:bF P T){id:Nat}{l:List Oper}(n:Nat){o:Oper}{t kt et:TypeId}{m k v:Operand}(key:List UInt8)(hl:l.drop n=[o])(hu:P.underlying t=some (.map kt et))(hk:P.underlying kt=some .string)(ho:o.op=.mapUpdate t m k v)(hg:o.guard=none)(hd:o.dst=none)(hlen:key.length<=maxLen)
  (h:∀K:DS->Prop,(∀s',evD s'.t m=.c (.p (.o (.map (some b))))/\evD s'.t k=.c (.p (.s key))/\evD s'.t v=.c (.p (.b true))/\Q (key::ks) .normal s'->K s')->jP P T l.toArray (l.take n) s K):
  DQ P b X0 (.region id l.toArray false) s ks Q:=by
 intro gd hb X a hh hi hs ht ha hm;refine wp_region_list ?_;rw[show l.toArray.toList=l.take n++[o] by rw[<- hl];simp]
 refine gC hT (gd.step hs) (l.take n) hh hi (Step.refl hi) ht (h _ λs' hs'=>?_);obtain⟨e1,e2,e3,hq⟩:=hs';intro X' a' hh' hi' hst ht';obtain⟨ha',hsm⟩:=ha.step hi' hst;obtain⟨ob,r1,r2⟩:=zLZ hu hk (hm.same hsm) hlen;refine wpList_plain hg λK hK=>?_;unfold Oper.wp execOp;simp only[ho,MU ht' e1,zKh ht' e2,zLA ht' e3,Sem.run_bind,r1,Result.andThen_ok,Sem.run_pure];rw[Oper.upon_skip];refine hK _ _ (wpList_nil ⟨s',X'.setB b ob,key::ks,hq,rfl,hh',hi'.setB ha',(hs.trans hi hst).setB hb ha',?_,ha'.setB,r2⟩);have:=TInv.setB (o:=ob) ha' ht';rw[hd];exact this
theorem zGk(hT:bF P T){id:Nat}{l l2:List Oper}(n:Nat){o:Oper}{t kt et:TypeId}{m k:Operand}(key:List UInt8)(hl:l.drop n=o::l2)(hu:P.underlying t=some (.map kt et))(hk:P.underlying kt=some .string)(hz:∀w,(zeroValue et).run P w=.ok (.bool false) w)(ho:o.op=.lookup t m k false)(hg:o.guard=none)(hlen:key.length<=maxLen)
  (h:∀K:DS->Prop,(∀s',evD s'.t m=.c (.p (.o (.map (some b))))/\evD s'.t k=.c (.p (.s key))/\(∀K2:DS->Prop,(∀s2,Q ks .normal s2->K2 s2)->jP P T l.toArray l2 (s'.put o.dst (.c (.p (.b (ks.contains key)))) s'.h) K2)->K s')->jP P T l.toArray (l.take n) s K):
  DQ P b X0 (.region id l.toArray false) s ks Q:=by
 intro gd hb X a hh hi hs ht ha hm;refine wp_region_list ?_;rw[show l.toArray.toList=l.take n++o::l2 by rw[<- hl];simp]
 refine gC hT (gd.step hs) (l.take n) hh hi (Step.refl hi) ht (h _ λs' hs'=>?_);obtain⟨e1,e2,hq⟩:=hs';intro X' a' hh' hi' hst ht';obtain⟨ha',hsm⟩:=ha.step hi' hst;have r1:=zIR hu hk (hz X'.w) (hm.same hsm) hlen;refine wpList_plain hg λK hK=>?_;unfold Oper.wp execOp;simp only[ho,MU ht' e1,zKh ht' e2,Sem.run_bind,r1,Result.andThen_ok,Sem.run_pure];rw[Oper.upon_value];refine hK _ _ ?_;rw[<- List.append_nil l2];refine gC hT (gd.step (hs.trans hi hst)) l2 (s:=s'.put o.dst (.c (.p (.b (ks.contains key)))) s'.h) (by unfold DS.put;split<;>(try split)<;>exact hh') hi' (Step.refl hi') (ht'.put (d:=.c (.p (.b (ks.contains key)))) rfl o.dst s'.h) (hq _ λs2 hs2=>?_);intro X2 a2 hh2 hi2 hst2 ht2;obtain⟨ha2,hsm2⟩:=ha'.step hi2 hst2;exact wpList_nil ⟨s2,X2,ks,hs2,rfl,hh2,hi2,(hs.trans hi hst).trans hi' hst2,ht2,ha2,(hm.same hsm).same hsm2⟩
theorem zGm{c:Code}(i k:Nat)(hn:look s.t i=.c (.p .nil))(h:DQ P b X0 c ⟨s.n,(i,.c (.own s.h.length 0 0))::s.t,s.h++[.arr k [] false]⟩ ks Q):DQ P b X0 c s ks Q:=by
 intro gd hb X a hh hi hs ht ha hm;obtain⟨h1,h2⟩:=virt hi k;obtain⟨g1,g2⟩:=ha.step h2 h1;refine h gd hb (X.virt k) a (by simp[Ctx.virt,hh]) h2 (hs.trans hi h1) ⟨ht.size,λj=>?_,ht.defs⟩ g1 (hm.same g2);simp only[look];split
 .rename_i hij;subst hij;have:=ht.rel j;rw[hn] at this;rw[<- hh];exact qZ (iY (X:=X) (k:=k) this)
 .exact(ht.rel j).step h1
theorem zJF(hT:bF P T){id:Nat}{o:Oper}{l2:List Oper}{t:TypeId}{y:Code}{Q:Exit->DS->Prop}(ho:o.op=.makeMap t none)(hg:o.guard=none)
  (h:∀b,∀K:DS->Prop,(∀s',DQ P b X0 y s' [] (λ_=>Q)->K s')->jP P T (o::l2).toArray l2 (s.put o.dst (.c (.p (.o (.map (some b))))) s.h) K):
  SWP P X0 (.seq (.region id (o::l2).toArray false) y) s Q:=by
 intro gd X a hh hi hs ht;refine wp_seq (wp_region_list ?_);show wpList P _ _ (o::l2) a X.w;refine wpList_plain hg λK hK=>?_;unfold Oper.wp execOp;simp only[ho,Option.map_none,Instr.makeMap,Sem.run_bind,Sem.run_pure,run_newObj,Result.andThen_ok];rw[Oper.upon_value];obtain⟨g1,g2,g3⟩:=YS hi (w':={ X.w with heap:=X.w.heap.push (.map #[] 0) }) ⟨rfl,rfl,rfl,sH.rfl'⟩;refine hK _ _ ?_;have ht1:TInv (X.at_ { X.w with heap:=X.w.heap.push (.map #[] 0) }) (s.put o.dst (.c (.p (.o (.map (some X.w.heap.size))))) s.h) (a.put o.dst (.map (some X.w.heap.size))):=(ht.step g2).put (d:=.c (.p (.o (.map (some X.w.heap.size))))) ⟨rfl,rfl⟩ o.dst s.h
 suffices hx:wpList P (o::l2).toArray (Exit.then (y.wp P (zCc X0 Q)) (zCc X0 Q)) (l2++[]) (a.put o.dst (.map (some X.w.heap.size))) { X.w with heap:=X.w.heap.push (.map #[] 0) } by rwa[List.append_nil] at hx
 refine gC hT (gd.step (hs.trans hi g2)) l2 (X:=X.at_ { X.w with heap:=X.w.heap.push (.map #[] 0) }) (by unfold DS.put;split<;>(try split)<;>exact hh) g1 (Step.refl g1) ht1 (h X.w.heap.size _ λs2 hs2=>?_);intro X2 a2 hh2 hi2 hst2 ht2;obtain⟨ha2,hsm2⟩:=g3.step hi2 hst2;have hm0:sL (X.at_ { X.w with heap:=X.w.heap.push (.map #[] 0) }).w X.w.heap.size []:=⟨#[],0,by show (X.w.heap.push _)[X.w.heap.size]? = _;rw[Array.getElem?_push,if_pos rfl],by simp,by simp⟩
 exact wpList_nil (zBY hs2 gd hs.size X2 a2 hh2 hi2 ((hs.trans hi g2).trans g1 hst2) ht2 ha2 (hm0.same hsm2))
theorem zGl(hT:bF P T){id:Nat}{l:List Oper}{n0:Nat}{t0:Fr}{h0:aB}(n:Nat){o:Oper}{t kt et:TypeId}{m k v:Operand}(key:List UInt8)(hl:l.drop n=[o])(hu:P.underlying t=some (.map kt et))(hk:P.underlying kt=some .string)(ho:o.op=.mapUpdate t m k v)(hg:o.guard=none)(hd:o.dst=none)(hlen:key.length<=maxLen)
  (h:∀K:DS->Prop,(∀n' t' h',evD t' m=.c (.p (.o (.map (some b))))->evD t' k=.c (.p (.s key))->evD t' v=.c (.p (.b true))->Q (key::ks) .normal ⟨n',t',h'⟩->K ⟨n',t',h'⟩)->jP P T l.toArray (l.take n) ⟨n0,t0,h0⟩ K):
  DQ P b X0 (.region id l.toArray false) ⟨n0,t0,h0⟩ ks Q :=
 zJI hT n key hl hu hk ho hg hd hlen λK hK=>h K λn' t' h' e1 e2 e3 hq=>hK ⟨n',t',h'⟩ ⟨e1,e2,e3,hq⟩
theorem zB2(hT:bF P T){id:Nat}{l l2:List Oper}{n0:Nat}{t0:Fr}{h0:aB}(n:Nat){o:Oper}{t kt et:TypeId}{m k:Operand}{i:Nat}(key:List UInt8)(hl:l.drop n=o::l2)(hu:P.underlying t=some (.map kt et))(hk:P.underlying kt=some .string)(hz:∀w,(zeroValue et).run P w=.ok (.bool false) w)(ho:o.op=.lookup t m k false)(hg:o.guard=none)(hd:o.dst=some i)(hlen:key.length<=maxLen)
  (h:∀K:DS->Prop,(∀n' t' h',i<n'->evD t' m=.c (.p (.o (.map (some b))))->evD t' k=.c (.p (.s key))->(∀K2:DS->Prop,(∀s2,Q ks .normal s2->K2 s2)->jP P T l.toArray l2 ⟨n',(i,.c (.p (.b (ks.contains key))))::t',h'⟩ K2)->K ⟨n',t',h'⟩)->jP P T l.toArray (l.take n) ⟨n0,t0,h0⟩ K):
  DQ P b X0 (.region id l.toArray false) ⟨n0,t0,h0⟩ ks Q :=
 zGk hT n key hl hu hk hz ho hg hlen λK hK=>h K λn' t' h' hi e1 e2 hq=>hK ⟨n',t',h'⟩ ⟨e1,e2,by
  rw[hd,show (⟨n',t',h'⟩:DS).put (some i) (.c (.p (.b (ks.contains key)))) h'=⟨n',(i,.c (.p (.b (ks.contains key))))::t',h'⟩ from if_pos hi]
  exact hq⟩
theorem zGf(hT:bF P T){id:Nat}{o:Oper}{l2:List Oper}{n0:Nat}{t0:Fr}{h0:aB}{t:TypeId}{i:Nat}{y:Code}{Q:Exit->DS->Prop}(ho:o.op=.makeMap t none)(hg:o.guard=none)(hd:o.dst=some i)(hi:i<n0)
  (h:∀b,∀K:DS->Prop,(∀s',DQ P b X0 y s' [] (λ_=>Q)->K s')->jP P T (o::l2).toArray l2 ⟨n0,(i,.c (.p (.o (.map (some b)))))::t0,h0⟩ K):
  SWP P X0 (.seq (.region id (o::l2).toArray false) y) ⟨n0,t0,h0⟩ Q :=
 zJF hT ho hg λb K hK=>by
  rw[hd,show (⟨n0,t0,h0⟩:DS).put (some i) (.c (.p (.o (.map (some b))))) h0=⟨n0,(i,.c (.p (.o (.map (some b)))))::t0,h0⟩ from if_pos hi]
  exact h b K hK
end rules
attribute [go_sem] zO9 qm_r qm_e zPM zPL
end
end Go.Dm
end
