/- Part 35 of the proof of roomMerges_card, set without needless blanks. No condition. -/
import Derived.Test.YtflcjdohmojepaaGreatDoorM33
import Derived.StringKeys
set_option linter.all false
set_option maxRecDepth 100000
set_option maxHeartbeats 16000000
section
namespace Go.Proofs.YtflcjdohmojepaaGreatDoor
open Go Go.Dm Go.Proofs Go.Proofs.Tryz
theorem zQH{i p s:Int}{f:Bool}:zDg prog 54 [.i .i64 i,.i .i64 p,.i .i64 s,.b f] [.i .i64 i,.i .i64 p,.i .i64 s,.b f] true:=by
 refine⟨by kernel_rfl,λvx vy w hx hy=>?_⟩
 have one:∀vx:List Value,[PV.i .i64 i,.i .i64 p,.i .i64 s,.b f].map gX=vx.map some->vx=[.int .i64 i,.int .i64 p,.int .i64 s,.bool f]:=λvx hx=>by
  match vx,hx with
  | [a,b,c,d],hx=>simp only[List.map_cons,List.map_nil,gX,List.cons.injEq,Option.some.injEq,and_true] at hx;rw[<- hx.1,<- hx.2.1,<- hx.2.2.1,<- hx.2.2.2]
  | [],hx=>simp at hx
  | [_],hx=>simp at hx
  | [_,_],hx=>simp at hx
  | [_,_,_],hx=>simp at hx
  | _::_::_::_::_::_,hx=>simp at hx
 rw[one vx hx,one vy hy];have u1:=Tryz.underlying3;have a1:=Tryz.isAgg3;have z1:=Tryz.sizeOf3;have u2:=Tryz.underlying4;have a2:=Tryz.isAgg4;have z2:=Tryz.sizeOf4;have hS:Tryz.prog.underlying 54=some (.struct (Tryz.prog.fieldsOf 54)):=by kernel_rfl
 have hp:Tryz.prog.stoodInHeld 54=false:=by kernel_rfl
 rw[show (10000:Nat)=9999+1 from rfl,run_equalIn_agg w 9999 54 _ _ hS hp]
 simp only[Program.fieldsOf,Tryz.underlying54]
 go_simp
theorem zO8{ti:TI}{h:aD}{i p s:Int}{f:Bool}{K:DV->aD->Prop}(hK:K (.c (.p (.b false))) h):
  zDd prog 54 ti h .neq (.agg [.p (.i .i64 i),.p (.i .i64 p),.p (.i .i64 s),.p (.b f)]) (.agg [.p (.i .i64 i),.p (.i .i64 p),.p (.i .i64 s),.p (.b f)]) K :=
 NA [.i .i64 i,.i .i64 p,.i .i64 s,.b f] [.i .i64 i,.i .i64 p,.i .i64 s,.b f] _ rfl rfl rfl rfl zQH (.inr ⟨rfl,hK⟩)
theorem zQK{q:List UInt8}{n:Int}:zDg prog 52 [.s q,.i .i64 n] [.s q,.i .i64 n] true:=by
 refine⟨by kernel_rfl,λvx vy w hx hy=>?_⟩
 have one:∀vx:List Value,[PV.s q,.i .i64 n].map gX=vx.map some->vx=[.string ⟨q.toArray⟩,.int .i64 n]:=λvx hx=>by
  match vx,hx with
  | [a,b],hx=>simp only[List.map_cons,List.map_nil,gX,List.cons.injEq,Option.some.injEq,and_true] at hx;rw[<- hx.1,<- hx.2]
  | [],hx=>simp at hx
  | [_],hx=>simp at hx
  | _::_::_::_,hx=>simp at hx
 rw[one vx hx,one vy hy];have u1:=Tryz.underlying3;have a1:=Tryz.isAgg3;have z1:=Tryz.sizeOf3;have u2:=Tryz.underlying9;have a2:=Tryz.isAgg9;have z2:=Tryz.sizeOf9;have hS:Tryz.prog.underlying 52=some (.struct (Tryz.prog.fieldsOf 52)):=by kernel_rfl
 have hp:Tryz.prog.stoodInHeld 52=false:=by kernel_rfl
 rw[show (10000:Nat)=9999+1 from rfl,run_equalIn_agg w 9999 52 _ _ hS hp]
 simp only[Program.fieldsOf,Tryz.underlying52]
 go_simp
theorem zPi{ti:TI}{h:aD}{q:List UInt8}{n:Int}{K:DV->aD->Prop}(hK:K (.c (.p (.b false))) h):
  zDd prog 52 ti h .neq (.agg [.p (.s q),.p (.i .i64 n)]) (.agg [.p (.s q),.p (.i .i64 n)]) K :=
 NA [.s q,.i .i64 n] [.s q,.i .i64 n] _ rfl rfl rfl rfl zQK (.inr ⟨rfl,hK⟩)
end Go.Proofs.YtflcjdohmojepaaGreatDoor
end
section
namespace Go.Dm
open Go Go.MapKept Go.WideMaps Go.WideShapes
section
variable {k:List UInt8}{P:Program}{ks:List (List UInt8)}{w:World}{b:Nat}
def HY(k:List UInt8):Value:=.string ⟨k.toArray⟩
theorem zA2{k':List UInt8}(h:HY k=HY k'):k=k':=by
 simp only[HY,Value.string.injEq,ByteArray.mk.injEq] at h;exact List.toArray_inj h
def tS(w:World)(b:Nat)(ks:List (List UInt8)):Prop:=∃es clock,w.heap[b]?=some (.map es clock) /\
 (∀e∈es.toList,∃k∈ks,e.key=HY k/\e.val=.bool true)/\∀k∈ks,k.length<=maxLen/\∃e∈es.toList,e.key=HY k
theorem tS.keys{kt:TypeId}(hk:P.underlying kt=some .string){es:Array MapEntry}(h1:∀e∈es.toList,∃k∈ks,e.key=HY k/\e.val=.bool true)(h2:∀k∈ks,k.length<=maxLen/\∃e∈es.toList,e.key=HY k):
  ∀e∈es.toList,∃l,keyOf P kt e.key=some l:=λe he=>by
 obtain⟨k,hk',he1,_⟩:=h1 e he;rw[he1];exact⟨_,keyOf_string_mk hk (by show k.toArray.size<=maxLen;simpa using (h2 k hk').1)⟩
theorem zJI{t kt et:TypeId}(ht:P.underlying t=some (.map kt et))(hk:P.underlying kt=some .string)(hz:(zeroValue et).run P w=.ok (.bool false) w)(h:tS w b ks)(hl:k.length<=maxLen):
  (Instr.lookup t (.map (some b)) (HY k) false).run P w=.ok (.bool (ks.contains k)) w:=by
 obtain⟨es,clock,hb,h1,h2⟩:=h;have K:=string_law hk;have hkey:keyOf P kt (HY k)=some (.string k):=keyOf_string_mk hk (by show k.toArray.size<=maxLen;simpa using hl);rcases K.find w hkey es.toList (tS.keys hk h1 h2) with⟨f1,f2⟩|⟨j,e,f1,f2,f3⟩
 .have hc:ks.contains k=false:=by
   rw[Bool.eq_false_iff];intro hc;obtain⟨_,e,he,hek⟩:=h2 k (by simpa using hc);exact f2 e he hek
  rw[hc];simp[Instr.lookup,run_underlying ht,MapKept.run_getObj_map hb,K.check w _ hkey,f1,hz,Result.andThen]
 .obtain⟨k',hk',he1,he2⟩:=h1 e (List.mem_of_getElem? f2);have:k'=k:=zA2 (he1.symm.trans f3);subst this;have hc:ks.contains k'=true:=by simpa using hk'
  rw[hc];simp[Instr.lookup,run_underlying ht,MapKept.run_getObj_map hb,K.check w _ hkey,f1,he2,Result.andThen]
theorem zMX{t kt et:TypeId}(ht:P.underlying t=some (.map kt et))(hk:P.underlying kt=some .string)(h:tS w b ks)(hl:k.length<=maxLen):
  ∃o,(Instr.mapUpdate t (.map (some b)) (HY k) (.bool true)).run P w=.ok () { w with heap:=w.heap.setIfInBounds b o }/\tS { w with heap:=w.heap.setIfInBounds b o } b (k::ks):=by
 obtain ⟨es,clock,hb,h1,h2⟩:=h;have K:=string_law hk;have hlt:b<w.heap.size:=(Array.getElem?_eq_some_iff.1 hb).1;have hat:∀o:Obj,({ w with heap:=w.heap.setIfInBounds b o }:World).heap[b]?=some o:=λo=>by
  show (w.heap.setIfInBounds b o)[b]?=some o;rw[Array.getElem?_setIfInBounds_self_of_lt hlt]
 have hkey:keyOf P kt (HY k)=some (.string k):=keyOf_string_mk hk (by show k.toArray.size<=maxLen;simpa using hl);rcases K.find w hkey es.toList (tS.keys hk h1 h2) with⟨f1,f2⟩|⟨j,e,f1,f2,f3⟩
 .refine ⟨.map (es.push { key:=HY k,val:=.bool true,born:=clock }) (clock+1),?_,_,_,hat _,λe he=>?_,λk' hk'=>?_⟩
  .simp[Instr.mapUpdate,run_underlying ht,MapKept.run_getObj_map hb,K.check w _ hkey,f1,MapKept.run_setObj_map _ hb,Result.andThen]
  .simp only[Array.toList_push,List.mem_append,List.mem_singleton] at he;rcases he with he|rfl
   .obtain⟨k',g1,g2⟩:=h1 e he;exact⟨k',List.mem_cons_of_mem _ g1,g2⟩
   .exact⟨k,List.mem_cons_self,rfl,rfl⟩
  .rcases List.mem_cons.1 hk' with rfl|hk'
   .exact⟨hl,{ key:=HY k',val:=.bool true,born:=clock },by simp,rfl⟩
   .obtain⟨g1,e,g2,g3⟩:=h2 k' hk';exact⟨g1,e,by simp at g2 ⊢;exact .inl g2,g3⟩
 .have hj:es[j]?=some e:=by simpa using f2
  obtain⟨k',hk',he1,he2⟩:=h1 e (List.mem_of_getElem? f2);have:k'=k:=zA2 (he1.symm.trans f3);subst this;refine⟨.map (es.modify j λe=>{ e with key:=HY k',val:=.bool true }) clock,?_,_,_,hat _,λe' he=>?_,λk2 hk2=>?_⟩
  .have hs:(Instr.keyThatStays (HY k') (HY k')).run P w=.ok (HY k') w:=K.stays w hkey;simp[Instr.mapUpdate,run_underlying ht,MapKept.run_getObj_map hb,K.check w _ hkey,f1,hj,f3,hs,MapKept.run_setObj_map _ hb,Result.andThen]
  .obtain ⟨i,hi⟩:=List.mem_iff_getElem?.1 he;rw[Array.getElem?_toList,Array.getElem?_modify] at hi;split at hi
   .cases hx:es[i]? with
    | none=>rw[hx] at hi;cases hi
    | some x =>
     rw[hx] at hi;simp only[Option.map_some,Option.some.injEq] at hi;subst hi;exact⟨k',List.mem_cons_self,rfl,rfl⟩
   .obtain⟨k2,g1,g2⟩:=h1 e' (List.mem_iff_getElem?.2 ⟨i,by rw[Array.getElem?_toList];exact hi⟩)
    exact⟨k2,List.mem_cons_of_mem _ g1,g2⟩
  .have key:k2.length<=maxLen/\∃e∈es.toList,e.key=HY k2:=by
    rcases List.mem_cons.1 hk2 with rfl|hk2
    .exact⟨hl,e,List.mem_of_getElem? f2,f3⟩
    .exact h2 k2 hk2
   obtain⟨g1,e2,g2,g3⟩:=key;refine⟨g1,?_⟩;obtain⟨i,hi⟩:=List.mem_iff_getElem?.1 g2;rw[Array.getElem?_toList] at hi;by_cases hij:j=i
   .subst hij;rw[hj] at hi;cases hi;refine⟨{ e with key:=HY k',val:=.bool true },List.mem_iff_getElem?.2 ⟨j,?_⟩,f3.symm.trans g3⟩;rw[Array.getElem?_toList,Array.getElem?_modify,if_pos rfl,hj];rfl
   .refine⟨e2,List.mem_iff_getElem?.2 ⟨i,?_⟩,g3⟩;rw[Array.getElem?_toList,Array.getElem?_modify,if_neg hij,hi]
def pA(X:Ctx)(b:Nat):Prop:=b<X.w.heap.size/\¬ X.S b/\∀id db g,X.h[id]?=some db->db.live=true->X.G id=some g->g.1≠b
theorem pA.step{X X':Ctx}(ha:pA X b)(hi':HInv X')(hs:Step X X'):pA X' b/\X'.w.heap[b]?=X.w.heap[b]? := by
 obtain ⟨h1,h2,h3⟩:=ha;have hS:¬ X'.S b:=λh=>by
  rcases hs.upper b h with h|h|⟨id,db,g,hd,hl,hg,e⟩
  .exact h2 h
  .omega
  .exact h3 id db g hd hl hg e
 refine⟨⟨Nat.lt_of_lt_of_le h1 hs.size,hS,λid db g hd hl hg e=>?_⟩,hs.frame b h1 λid db g hd hl _ hg=>h3 id db g hd hl hg⟩;cases hf:db.fix
 .rcases hs.mine id db g hd hl hf hg with h|⟨id0,db0,g0,hd0,hl0,_,hg0,e0⟩
  .omega
  .exact h3 id0 db0 g0 hd0 hl0 hg0 (e0.trans e)
 .exact hS (e▸(hi'.own id db g hd hl hg).2 hf)
theorem tS.same{w':World}(h:tS w b ks)(e:w'.heap[b]?=w.heap[b]?):tS w' b ks:=by
 obtain⟨es,c,h1,h2⟩:=h;exact⟨es,c,e.trans h1,h2⟩
section put
variable {X:Ctx}{b:Nat}{o:Obj}
variable {v:Value}
def Ctx.setB(X:Ctx)(b:Nat)(o:Obj):Ctx:=X.at_ { X.w with heap:=X.w.heap.setIfInBounds b o }
theorem oI{c:Nat}(h:c≠b):(X.setB b o).w.heap[c]?=X.w.heap[c]? := by
 show (X.w.heap.setIfInBounds b o)[c]? = _;rw[Array.getElem?_setIfInBounds_ne (Ne.symm h)]
theorem kY(ha:pA X b):Kept X.w (X.setB b o).w X.S X.S:=λc hc=>⟨hc,oI λe=>ha.2.1 (e▸hc)⟩
theorem zGH(ha:pA X b){x:KV}(h:sD X x v):sD (X.setB b o) x v:=by
 cases x<;>simp only[sD] at h ⊢
 case p=>exact cZ.kept (kY ha) h
 case ptr=>exact h
theorem HG(ha:pA X b):∀{xs:List KV} {vs:List Value},fQ X xs vs->fQ (X.setB b o) xs vs
 | [],[],_=>True.intro
 | _::_,_::_,h=>⟨zGH ha h.1,HG ha h.2⟩
 | [],_::_,h=>h.elim
 | _::_,[],h=>h.elim
theorem uY(ha:pA X b){x:CV}(h:cA X x v):cA (X.setB b o) x v:=by
 cases x<;>simp only[cA] at h ⊢
 case p=>exact cZ.kept (kY ha) h
 case own id off len =>
  obtain⟨h1,h2,h3⟩:=h;refine⟨h1,h2,λk es ro hd=>?_⟩;obtain⟨h4,h5⟩:=h3 k es ro hd;refine⟨h4,?_⟩;show match X.G id with|none=>_|some g=>_
  cases hg:X.G id with
  | none=>rw[hg] at h5;exact h5
  | some g =>
   rw[hg] at h5;obtain⟨cap,q,arr,el,fz,h6,h7⟩:=h5;exact⟨cap,q,arr,el,fz,(oI (ha.2.2 id _ g hd rfl hg)).trans h6,h7⟩
 case ptr=>exact h
 case aptr=>exact h
 case mp=>exact h
 case bs=>exact h
 case eptr =>
  obtain⟨bl,off,h1,h2,h3⟩:=h;exact⟨bl,off,h1,h2,gT.kept (kY ha) h2 h3⟩
 case full =>
  obtain⟨a,h1,h2⟩:=h;refine⟨a,h1,h2.imp id ?_⟩;rintro⟨bl,off,h3,h4,h5⟩;exact⟨bl,off,h3,h4,fP.kept (kY ha) h4 h5⟩
 case clo =>
  obtain⟨vs,h1,h2⟩:=h;exact⟨vs,h1,HG ha h2⟩
theorem wP(ha:pA X b):∀{xs:List CV} {vs:List Value},bF X xs vs->bF (X.setB b o) xs vs
 | [],[],_=>True.intro
 | _::_,_::_,h=>⟨uY ha h.1,wP ha h.2⟩
 | [],_::_,h=>h.elim
 | _::_,[],h=>h.elim
theorem zCu(ha:pA X b){x:EV}(h:eD X x v):eD (X.setB b o) x v:=by
 cases x<;>simp only[eD] at h ⊢
 case c=>exact uY ha h
 case agg=>obtain⟨vs,h1,h2⟩:=h;exact⟨vs,h1,wP ha h2⟩
theorem CT(ha:pA X b):∀{xs:List EV} {vs:List Value},cO X xs vs->cO (X.setB b o) xs vs
 | [],[],_=>True.intro
 | _::_,_::_,h=>⟨zCu ha h.1,CT ha h.2⟩
 | [],_::_,h=>h.elim
 | _::_,[],h=>h.elim
theorem zGG(ha:pA X b){x:DV}(h:bD X x v):bD (X.setB b o) x v:=by
 cases x<;>simp only[bD] at h ⊢
 case c=>exact uY ha h
 case agg=>obtain⟨vs,h1,h2⟩:=h;exact⟨vs,h1,wP ha h2⟩
 case tup=>obtain⟨vs,h1,h2⟩:=h;exact⟨vs,h1,CT ha h2⟩
theorem zGF(ha:pA X b){id:Nat}{db:DB}(hd:X.h[id]?=some db)(h:eC X id db):eC (X.setB b o) id db:=by
 cases db<;>simp only[eC] at h ⊢
 case box =>
  obtain⟨g,arr,el,fz,h1,h2,h3,h4,h5⟩:=h;have hb:(X.setB b o).w.heap[g.1]?=X.w.heap[g.1]? := oI (ha.2.2 id _ g hd rfl h1);refine⟨g,arr,el,fz,h1,hb.trans h2,h3,h4,cU.mk λj c hj=>?_⟩;obtain⟨v,g1,g2⟩:=h5.at_ hj;exact⟨v,by rw[World.cell?_of_block (a:=⟨g.1,g.2+j,none⟩) hb];exact g1,uY ha g2⟩
 case arr =>
  rcases h with h|⟨g,arr,el,fz,h1,h2,h3,h4,h5⟩
  .exact .inl h
  .have hb:(X.setB b o).w.heap[g.1]?=X.w.heap[g.1]? := oI (ha.2.2 id _ g hd rfl h1);exact .inr ⟨g,arr,el,fz,h1,hb.trans h2,h3,h4,h5.move (kY ha) hb⟩
 case mp =>
  obtain⟨g,ms,c,h1,h2,h3,h4⟩:=h;have hb:(X.setB b o).w.heap[g.1]?=X.w.heap[g.1]? := oI (ha.2.2 id _ g hd rfl h1);exact⟨g,ms,c,h1,hb.trans h2,h3.kept (kY ha),h4⟩
theorem HInv.setB(hi:HInv X)(ha:pA X b):HInv (X.setB b o) where
 slt:=λc hc=>by
  show c<(X.w.heap.setIfInBounds b o).size;rw[Array.size_setIfInBounds];exact hi.slt c hc
 blk:=λid db h=>zGF ha h (hi.blk id db h)
 own:=hi.own
 inj:=hi.inj
theorem pA.setB(ha:pA X b):pA (X.setB b o) b :=
 ⟨by show b<(X.w.heap.setIfInBounds b o).size;rw[Array.size_setIfInBounds];exact ha.1,ha.2⟩
theorem Step.setB{X0:Ctx}(hs:Step X0 X)(h0:X0.w.heap.size<=b)(ha:pA X b):Step X0 (X.setB b o) where
 size:=by
  show _<=(X.w.heap.setIfInBounds b o).size;rw[Array.size_setIfInBounds];exact hs.size
 os:=hs.os
 tape:=hs.tape
 output:=hs.output
 kept:=λc hc=>⟨(hs.kept c hc).1,(oI (show c≠b from λe=>ha.2.1 (e▸(hs.kept c hc).1))).trans (hs.kept c hc).2⟩
 len:=hs.len
 ids:=λid db' hid hd hl=>by
  obtain⟨db,h1,h2,h3,h4⟩:=hs.ids id db' hid hd hl;exact⟨db,h1,h2,h3,λg hg=>by rw[oI (ha.2.2 id db' g hd hl (h3.trans hg))];exact h4 g hg⟩
 frame:=λc hc hn=>(oI (by omega)).trans (hs.frame c hc hn)
 mine:=hs.mine
 upper:=hs.upper
theorem TInv.setB{s:DS}{a:Act}(ha:pA X b)(ht:TInv X s a):TInv (X.setB b o) s a:=⟨ht.size,λi=>zGG ha (ht.rel i),ht.defs⟩
end put
end
end Go.Dm
end
