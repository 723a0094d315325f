/- Part 47 of the proof of roomKnown_card. No condition. -/
import Derived.Shelf.SlBodiesN
import Derived.Shelf.RegionOpenPlain
import Derived.Deep.RegionLaw
import Derived.Lib.SliceRun
import Derived.Test.YtbpblnmhlhpebaaGreatDoorB45
set_option linter.all false
set_option maxRecDepth 100000
set_option maxHeartbeats 8000000
namespace Go.Dm
open Go Go.Proofs Go.Shelf Go.RowKit Go.Lib
section
structure DelL (P:Program) (ρ:Ren):Prop where
 mixed:P.follows .mixedOrders=true
 f45:Bears P (ρ.f 45) (SlBodyN.n45 ρ)
 t0:P.underlying (ρ.t 0)=some (TypeDesc.tuple #[])
 a0:∀ w,(isAgg (ρ.t 0)).run P w=.ok false w
 z0:∀ w,(Go.sizeOf (ρ.t 0)).run P w=.ok 1 w
 v0:∀ w,(zeroValue (ρ.t 0)).run P w=.ok (Value.tuple #[]) w
 t3:P.underlying (ρ.t 3)=some (TypeDesc.int IntKind.i64)
 a3:∀ w,(isAgg (ρ.t 3)).run P w=.ok false w
 z3:∀ w,(Go.sizeOf (ρ.t 3)).run P w=.ok 1 w
 v3:∀ w,(zeroValue (ρ.t 3)).run P w=.ok (Value.int IntKind.i64 0) w
 t4:P.underlying (ρ.t 4)=some (TypeDesc.bool)
 a4:∀ w,(isAgg (ρ.t 4)).run P w=.ok false w
 z4:∀ w,(Go.sizeOf (ρ.t 4)).run P w=.ok 1 w
 v4:∀ w,(zeroValue (ρ.t 4)).run P w=.ok (Value.bool false) w
 t22:P.underlying (ρ.t 22)=some (TypeDesc.slice (ρ.t 23))
 a22:∀ w,(isAgg (ρ.t 22)).run P w=.ok false w
 z22:∀ w,(Go.sizeOf (ρ.t 22)).run P w=.ok 1 w
 v22:∀ w,(zeroValue (ρ.t 22)).run P w=.ok (Value.slice none 0 0) w
variable {P:Program} {ρ:Ren}
theorem XM (w:World) (t e ty:TypeId) (i0:TypeInfo) (z:Value) (ht:P.underlying t=some (.slice e)) (hi0:P.info? e=some i0) (hz0:i0.zero=some z) (k b o n c:Nat) (hzk:z.cells.size=k) (hn:0<n)
  (h1:∀ v∈(Builtin.zeroCells z.cells n).toList,v.oneCell'=true)
  (hc:∀ j,j<n*k→(w.cell? ⟨b,o+j,none⟩).isSome=true) (hf:∀ j,j<n*k→w.frozen? ⟨b,o+j,none⟩=false):
  (Builtin.clear_ #[t] ty #[.slice (some ⟨b,o,none⟩) n c]).run P w=.ok (.tuple #[]) (w.setCells b o (Builtin.zeroCells z.cells n).toList):=by
 have hl:(Builtin.zeroCells z.cells n).toList.length=n*k:=by rw [Array.length_toList,size_zeroCells,hzk]
 have hst:=run_storeCells_cells (P:=P) b o (Builtin.zeroCells z.cells n).toList 0 w (by rw [hl];simpa using hc) (by rw [hl];simpa using hf) h1
 simp only [Nat.add_zero] at hst
 obtain ⟨m,rfl⟩:∃ m,n=m+1:=⟨n-1,by omega⟩
 simp [Builtin.clear_,run_underlying ht,zeroValue,typeInfo,hi0,hz0,hst]
set_option maxHeartbeats 4000000 in
theorem zH5 (L:DelL P ρ) (i0:TypeInfo) (hi0:P.info? (ρ.t 23)=some i0) (z:Value) (hz0:i0.zero=some z) (k:Nat) (hk:i0.size=k) (hk0:0<k) (hzk:z.cells.size=k) (b off n c i j:Nat) (cs:List Value) (w:World) (hij:i<j) (hj:j≤n) (hnc:n≤c) (hc63:c≤9223372036854775807)
  (hcl:cs.length=n*k) (hcs:∀ t v,cs[t]? = some v→w.cell? ⟨b,off+t,none⟩=some v) (hfz:∀ t,t<n*k→w.frozen? ⟨b,off+t,none⟩=false) (h1c:∀ v∈cs,v.oneCell'=true) (h1z:∀ m,∀ v∈(Builtin.zeroCells z.cells m).toList,v.oneCell'=true):
  Calls P (ρ.f 45) #[.slice (some ⟨b,off,none⟩) n c,.int .i64 i,.int .i64 j] w fun e w' =>
   e=.returned (.slice (some ⟨b,off,none⟩) (i+(n-j)) c)∧w'=(w.drew.setCells b (off+i*k) (cs.drop (j*k))).setCells b (off+(i+(n-j))*k) (Builtin.zeroCells z.cells (n-(i+(n-j)))).toList:=by
 have mixed:=L.mixed;have t0:=L.t0;have a0:=L.a0;have z0:=L.z0;have v0:=L.v0;have t3:=L.t3;have a3:=L.a3;have z3:=L.z3;have v3:=L.v3;have t4:=L.t4;have a4:=L.a4;have z4:=L.z4;have v4:=L.v4;have t22:=L.t22;have a22:=L.a22;have z22:=L.z22;have v22:=L.v22
 have z23:∀ w,(Go.sizeOf (ρ.t 23)).run P w=.ok k w:=fun w=>by simp [Go.sizeOf,typeInfo,hi0,hk]
 have hsome:∀ t,t<n*k→(w.cell? ⟨b,off+t,none⟩).isSome=true:=fun t ht=>by rw [hcs t _ (List.getElem?_eq_getElem (by omega))];rfl
 obtain ⟨news,hnews⟩:∃ news,news=cs.drop (j*k):=⟨_,rfl⟩
 have hlen:news.length=(n-j)*k:=by rw [hnews,List.length_drop,hcl,Nat.sub_mul]
 have m1:i*k+k≤j*k:=by have:=Nat.mul_le_mul_right k (show i+1≤j by omega);rw [Nat.add_mul,Nat.one_mul] at this;exact this
 have m2:j*k≤n*k:=Nat.mul_le_mul_right _ hj
 have m3:(n-j)*k=n*k-j*k:=Nat.sub_mul _ _ _
 have m4:(i+(n-j))*k=i*k+(n-j)*k:=Nat.add_mul _ _ _
 have m5:(n-(i+(n-j)))*k=n*k-(i+(n-j))*k:=Nat.sub_mul _ _ _
 obtain ⟨A,hA,hsrc⟩:∃ A:Addr,(if c=j then some (⟨b,off,none⟩:Addr) else some ⟨b,off+j*k,none⟩)=some A∧Hid (∀ t u,news[t]? = some u→w.drew.cell? (A.add t)=some u):=by
  by_cases h:c=j
  ·refine ⟨⟨b,off,none⟩,by simp [h],fun t u hu=>?_⟩
   have h0:news.length=0:=by rw [hlen,show n-j=0 by omega,Nat.zero_mul]
   rw [List.length_eq_zero_iff.1 h0] at hu
   simp at hu
  ·refine ⟨⟨b,off+j*k,none⟩,by simp [h],fun t u hu=>?_⟩
   rw [Addr.add_lit,Nat.add_assoc]
   rw [hnews,List.getElem?_drop] at hu
   exact hcs _ _ hu
 have s1:Hid (news.length=(n-j)*k):=hlen
 have s2:Hid (∀ u∈news,u.oneCell'=true):=fun u hu=>h1c u (List.mem_of_mem_drop (hnews▸hu))
 have s3:Hid (∀ t,t<news.length→(w.drew.cell? ⟨b,off+i*k+t,none⟩).isSome=true∧w.drew.frozen? ⟨b,off+i*k+t,none⟩=false):=fun t ht=>by
  rw [hlen] at ht
  rw [Nat.add_assoc]
  exact ⟨hsome _ (by omega),hfz _ (by omega)⟩
 obtain ⟨W1,hW1⟩:∃ W1,W1=w.drew.setCells b (off+i*k) news:=⟨_,rfl⟩
 have hW1c:∀ t,t<n*k→(W1.cell? ⟨b,off+t,none⟩).isSome=true:=fun t ht=>by
  rw [hW1]
  exact isSome_setCells b _ _ _ (fun s hs=>by rw [hlen] at hs;rw [Nat.add_assoc];exact hsome _ (by omega)) _ (hsome t ht)
 have hcl2:∀ ty,(Builtin.clear_ #[ρ.t 22] ty #[.slice (some ⟨b,off+(i+(n-j))*k,none⟩) (n-(i+(n-j))) (c-(i+(n-j)))]).run P W1=.ok (.tuple #[]) (W1.setCells b (off+(i+(n-j))*k) (Builtin.zeroCells z.cells (n-(i+(n-j)))).toList):=fun ty =>
  XM W1 _ _ ty i0 z t22 hi0 hz0 k b (off+(i+(n-j))*k) _ _ hzk (by omega) (h1z _) (fun t ht=>by rw [Nat.add_assoc];exact hW1c _ (by omega)) (fun t ht=>by rw [hW1,World.frozen?_setCells,Nat.add_assoc];exact hfz _ (by omega))
 have hW:Hid (W1=w.drew.setCells b (off+i*k) news):=hW1
 have hic:i≤c:=by omega
 have hjc:j≤c:=by omega
 rw [← hnews]
 obtain ⟨ZC,hZC⟩:∃ ZC,ZC=(Builtin.zeroCells z.cells (n-(i+(n-j)))).toList:=⟨_,rfl⟩
 rw [← hZC] at hcl2 ⊢
 clear hZC h1z hz0 hzk
 clear hW1 hW1c hnews hlen hsome hcs hfz m1 m2 m3 m4 m5
 obtain ⟨_,_,FG⟩:=L.f45
 go_enter FG,SlBodyN.n45_ntmps ρ
 go_wp2_with fail
 go_region_law_o (refine step_append_room rfl (.tmp 22) (.tmp 25) (ρ.t 22) rfl (ρ.t 23) i0 k t22 hi0 hk b off i c (by simp [Act.eval,Act.put]) A (n-j) (c-j) news (by simp [Act.eval,Act.put]) s1.out hsrc.out s2.out (by omega) s3.out ?_;rw [← hW.out])
 go_wp2
 go_ret
 exact ⟨rfl,by rw [hW.out]⟩
theorem ER {P:Program} {T:Tab} (hT:bT P T) {ρ:Ren} (L:DelL P ρ) (hen:∀ (vals:List Value) (w:World),(callFunc (ρ.f 45) vals.toArray).run P w=.ok (.enter (ρ.f 45) vals.toArray) w)
  {k:Nat} (hk:(T (ρ.t 23)).size=k) (hk1:1<k) {h:aC} {id n i:Nat} {es:List (List PV)} (hid:h[id]? = some (.arr k es false)) (hn:es.length=n) (hin:i<n):
  aA P (ρ.f 45) [.c (.own id 0 n),.c (.p (.i .i64 i)),.c (.p (.i .i64 (i+1)))] h fun d h'=>d=.c (.own h.length 0 (n-1))∧h'=h.set id .dead++[.arr k (es.take i++es.drop (i+1)) false]:=by
 intro X vals hh hi gd hr
 subst hh
 obtain ⟨v1,rfl,hv1⟩:∃ v1,vals=[v1,.int .i64 i,.int .i64 (i+1)]∧bB X (.c (.own id 0 n)) v1:=by
  match vals,hr with
  | [v1,v2,v3],hr =>
   obtain ⟨h1,h2,h3,_⟩:=hr
   have h2:v2=.int .i64 i:=h2
   have h3:v3=.int .i64 (i+1):=h3
   exact ⟨v1,by rw [h2,h3],h1⟩
  | [],hr=>exact hr.elim
  | [_],hr=>exact hr.2.elim
  | [_,_],hr=>exact hr.2.2.elim
  | _::_::_::_::_,hr=>exact hr.2.2.2.elim
 refine .inl ⟨hen _ _,?_⟩
 have hs0:(T (ρ.t 23)).size≠0:=by omega
 obtain ⟨_,i0,z,t1,t2,t3,t4,t5,t6,t7,t8⟩:=cE hT (bD hT hs0)
 have hz:z.cells.size=k:=by
  have:=congrArg List.length t5
  simp only [List.length_map] at this
  rw [← hk,t6,this];simp
 have hzr:bM X.w X.S (T (ρ.t 23)).zero z.cells.toList:=gX t5
 have h1z:∀ m,∀ v∈(Builtin.zeroCells z.cells m).toList,v.oneCell'=true:=fun m v hv=>by
  rw [kR] at hv
  obtain ⟨l,hl,hvl⟩:=List.mem_flatten.1 hv
  rw [(List.mem_replicate.1 hl).2] at hvl
  exact hzr.oneCell v hvl
 have hlt:=aO hid
 cases hg:X.G id with
 | none =>
  rcases hi.blk id _ hid with hq|⟨g',_,_,_,hq,_⟩
  ·rw [hq.2] at hn;simp at hn;omega
  ·rw [hg] at hq;cases hq
 | some g =>
  obtain ⟨cap,arr,el,fz,rfl,hbl,hnc,hcm,hsz,hfr,hL⟩:=SS hi hid hn hg (by omega) hv1
  obtain ⟨ca,a1,a2,a3⟩:=(hL.take i).vals
  obtain ⟨cx,x1,x2,x3⟩:=((hL.drop i).take 1).vals
  obtain ⟨cb,b1,b2,b3⟩:=(hL.drop (i+1)).vals
  have l1:(es.take i).length=i:=by rw [List.length_take];omega
  have l2:((es.drop i).take 1).length=1:=by rw [List.length_take,List.length_drop];omega
  have l3:(es.drop (i+1)).length=n-(i+1):=by rw [List.length_drop,hn]
  rw [l1] at a2
  rw [l2,Nat.one_mul] at x2
  rw [l3] at b2
  have m1:(i+1)*k=i*k+k:=by rw [Nat.add_mul,Nat.one_mul]
  have m2:(n-(i+1))*k+(i+1)*k=n*k:=by rw [← Nat.add_mul];congr 1;omega
  have m3:n*k≤cap*k:=Nat.mul_le_mul_right _ hnc
  have hcs:∀ (t:Nat) (v:Value),(ca++cx++cb)[t]? = some v→X.w.cell? ⟨g.1,g.2+t,none⟩=some v:=fun t v ht=>by
   rw [List.append_assoc] at ht
   rcases Nat.lt_or_ge t ca.length with h|h
   ·rw [List.getElem?_append_left h] at ht;exact a3 t v ht
   ·rw [List.getElem?_append_right h] at ht
    rcases Nat.lt_or_ge (t-ca.length) cx.length with h2|h2
    ·rw [List.getElem?_append_left h2] at ht
     have:=x3 _ v ht
     rw [← this];congr 2;omega
    ·rw [List.getElem?_append_right h2] at ht
     have:=b3 _ v ht
     rw [← this];congr 2;omega
  have hfz:fz.1=fz.2:=by rcases hfr.2 with h|h;omega;exact h
  have hcell:∀ t,t<n*k→(X.w.cell? ⟨g.1,g.2+t,none⟩).isSome=true:=fun t ht=>by
   simp only [World.cell?,hbl,Option.isSome_none,Bool.false_eq_true,if_false]
   rw [Array.getElem?_eq_getElem (by omega)];rfl
  have hdrop:(ca++cx++cb).drop ((i+1)*k)=cb:=List.drop_left' (by rw [List.length_append,a2,x2,m1])
  have e1:i+(n-(i+1))=n-1:=by omega
  have e2:n-(n-1)=1:=by omega
  have hz1:(Builtin.zeroCells z.cells 1).toList=z.cells.toList:=by rw [kR];simp
  refine (zH5 L i0 t1 z t4 k (by rw [t2,hk]) (by omega) hz g.1 g.2 n cap i (i+1) (ca++cx++cb) X.w (by omega) (by omega) hnc (by unfold maxLen at hcm;omega) (by rw [List.length_append,List.length_append,a2,x2,b2];omega) hcs
   (fun t _=>by simp only [World.frozen?,hbl];simp;omega) (fun v hv=>by
    rcases List.mem_append.1 hv with hv|hv
    ·rcases List.mem_append.1 hv with hv|hv
     ·exact a1.oneCell v hv
     ·exact x1.oneCell v hv
    ·exact b1.oneCell v hv) h1z).mono ?_
  rintro e w' ⟨rfl,hw⟩
  rw [hdrop,e1,e2,hz1] at hw
  have hzl:z.cells.toList.length=k:=by simpa using hz
  have m4:(n-1)*k=i*k+cb.length:=by rw [b2,← Nat.add_mul,e1]
  have m5:(n-1)*k+k=n*k:=by rw [← Nat.succ_mul];congr 1;omega
  obtain ⟨⟨arr1,c1,c2⟩,c3,c4,c5,c6,c7,c8⟩:=dN cb (g.2+i*k) X.w.drew arr hbl
  obtain ⟨⟨arr2,d1,d2⟩,d3,d4,d5,d6,d7,d8⟩:=dN z.cells.toList (g.2+(n-1)*k) _ arr1 c1
  rw [← hw] at d1 d3 d4 d5 d6 d7 d8
  have hto:Touched X.w w' g.1:=⟨d5.trans c5,d6.trans c6,⟨d7.trans c7,by rw [d8,c8];exact Nat.le_succ _⟩,d4.trans c4,fun b hb=>(d3 b hb).trans (c3 b hb),.inl ⟨arr,el,fz,arr2,el,fz,hbl,d1,by rw [d2,c2]⟩⟩
  obtain ⟨es2,hes2⟩:∃ es2,es2=es.take i++(es.drop (i+1)++[(T (ρ.t 23)).zero]):=⟨_,rfl⟩
  have hlen:es2.length=n:=by rw [hes2];simp only [List.length_append,l1,l3,List.length_cons,List.length_nil];omega
  have hsb:cK (.arr k es false) (.arr k es2 false):=⟨rfl,by omega⟩
  have hst:=Step.put hi hid rfl rfl hg hto hsb rfl
  have hopen:=nP (w:=X.w.drew) (W:=w') (bl:=g.1) (off:=g.2) (cb:=z.cells.toList) a2 (rfl:cb.length=cb.length) (.inr (by rw [← m4];exact hw)) a3 (fun t ht=>hcell t (by omega))
  have hik:HInv (X.put w' id (.arr k es2 false)):=HInv.put hi hid rfl rfl hg hto hsb rfl (by
   refine .inr ⟨g,arr2,el,fz,hg,d1,by rw [hlen,d2,c2];omega,by rw [d2,c2];exact hfr,eR.of_vals (vs:=ca++cb++z.cells.toList) (fun y hy=>?_) ?_ hopen⟩
   ·have hek:∀ y∈es,y.length=k:=fun y hy=>by
     obtain ⟨j,hj⟩:=List.mem_iff_getElem?.1 hy
     exact (hL.at_ hj).1
    rw [hes2] at hy
    rcases List.mem_append.1 hy with hy|hy
    ·exact hek y (List.mem_of_mem_take hy)
    ·rcases List.mem_append.1 hy with hy|hy
     ·exact hek y (List.mem_of_mem_drop hy)
     ·rw [List.mem_singleton.1 hy,← t6];exact hk
   ·have hr3:bM X.w X.S es2.flatten (ca++cb++z.cells.toList):=by
     rw [hes2,List.append_assoc,List.flatten_append,List.flatten_append]
     exact a1.append (b1.append (by simpa using hzr))
    exact hr3.kept hst.kept)
  have hid2:(X.put w' id (.arr k es2 false)).h[id]? = some (.arr k es2 false):=by
   simp only [Ctx.put]
   rw [List.getElem?_set]
   simp [hlt]
  obtain ⟨k3,k4⟩:=FY (off:=0) (len:=n-1) hik hid2 hg (by omega)
  have htk:(es2.drop 0).take (n-1)=es.take i++es.drop (i+1):=by
   rw [List.drop_zero,hes2,← List.append_assoc,List.take_left']
   rw [List.length_append,l1,l3];omega
  rw [htk] at k3 k4
  have hheap:((X.put w' id (.arr k es2 false)).rebase id (g.1,g.2+0*k) k (es.take i++es.drop (i+1))).h=X.h.set id .dead++[.arr k (es.take i++es.drop (i+1)) false]:=by
   simp only [Ctx.rebase,Ctx.put,List.set_set]
  rw [e1]
  refine ⟨_,rfl,_,_,rfl,k4,hst.trans hik k3,?_,rfl,hheap⟩
  refine pU (x:=.own X.h.length 0 (n-1)) ⟨by rw [hheap];simp,rfl,fun k' es' ro' hh=>?_⟩
  rw [hheap] at hh
  rw [show X.h.length=(X.h.set id .dead).length by simp,List.getElem?_concat_length] at hh
  simp only [Option.some.injEq,DB.arr.injEq] at hh
  obtain ⟨rfl,rfl,rfl⟩:=hh
  refine ⟨by rw [List.length_append,l1,l3];omega,?_⟩
  simp only [Ctx.rebase,Ctx.put,List.length_set,if_true]
  exact ⟨cap,g.2,arr2,el,fz,d1,rfl,.inr (by simp),by omega,hcm,by rw [d2,c2];simpa using hsz⟩
end
end Go.Dm
namespace Go.Proofs.YtbpblnmhlhpebaaGreatDoor
open Go Go.Dm Go.Shelf
section
def NI:Go.Shelf.Ren:=⟨fun | 45=>67|n=>n,fun | 22=>69 | 23=>76 | 3=>3 | 4=>4 | 0=>0|n=>n,fun|n=>n⟩
theorem zHG:DelL Tryz.prog NI:={
 mixed:=by kernel_rfl
 f45:=⟨Tryz.f67.name,by decide,Tryz.func67.trans (congrArg some (by kernel_rfl))⟩
 t0:=Tryz.underlying0
 a0:=Tryz.isAgg0
 z0:=Tryz.sizeOf0
 v0:=Tryz.zeroValue0
 t3:=Tryz.underlying3
 a3:=Tryz.isAgg3
 z3:=Tryz.sizeOf3
 v3:=Tryz.zeroValue3
 t4:=Tryz.underlying4
 a4:=Tryz.isAgg4
 z4:=Tryz.sizeOf4
 v4:=Tryz.zeroValue4
 t22:=Tryz.underlying69
 a22:=Tryz.isAgg69
 z22:=Tryz.sizeOf69
 v22:=Tryz.zeroValue69 }
theorem zJa {h:aC} {id n i:Nat} {es:List (List PV)} (hid:h[id]? = some (.arr 2 es false)) (hn:es.length=n) (hin:i<n):
  aA Tryz.prog 67 [.c (.own id 0 n),.c (.p (.i .i64 i)),.c (.p (.i .i64 (i+1)))] h fun d h'=>d=.c (.own h.length 0 (n-1))∧h'=h.set id .dead++[.arr 2 (es.take i++es.drop (i+1)) false] :=
 ER (k:=2) aB zHG (enters Tryz.func67 rfl rfl) (by show (tab 76).size=2;rw [tab76]) (by decide) hid hn hin
end
end Go.Proofs.YtbpblnmhlhpebaaGreatDoor
namespace Go.Proofs.YtbpblnmhlhpebaaGreatDoor
open Go Go.Dm Go.Proofs
section
theorem WU {r:Rm} {s:List UInt8} (hr:OkR r) (hgr:OkG r.L) (h3:OkR ⟨oB r.N s,r.L,r.E,r.x⟩):
  aA Tryz.prog 22 [.c (.ptr 0 0),.c (.p (.s s))] (bH r) fun d h=>d=.c (.p (.i .i64 (JK r s).2))∧h=fO (JK r s).1:=by
 have hf:=oF (r:=r) (s:=s) (by have:=hr.nl;omega) hr.srt
 have hnl:=hr.nl
 unfold JK
 rcases PT hr.srt (s:=s) with ⟨h1,h2⟩|⟨x,h1,h2,hx,h4⟩
 ·rw [h1] at hf ⊢
  simp only [Bool.not_false,if_true]
  refine aA.perm [0,4,5,6,1,2,3] (d1:=.c (.p (.i .i64 6))) (h1:=bH r) ?_ rfl rfl (by unfold fO bH;exact (by simp only [eO,fJ,fL,eP,jS];(repeat' (first|exact rfl|exact True.intro|refine And.intro ?_ ?_))))
  clear h1 h2 h3
  refine sK aB aK Tryz.func22 rfl rfl fun X0 hX=>?_
  simp only [Tryz.f22,go_sem]
  repeat' (first|simp only [*,go_sem,Nat.reduceLT,Nat.reduceEqDiff,↓reduceIte,Nat.reduceAdd,Bool.not_false]|((with_reducible refine aL [0,1,2,3] (hf) ?_ ?_ ?_ ?_);exact rfl;exact rfl;(focus ((simp only [go_sem];done)))))
 ·rw [h1] at hf ⊢
  simp only [Bool.not_true,Bool.false_eq_true,if_false]
  have hcl:=zAC h3 hgr
  have hlt:=(List.getElem?_eq_some_iff.1 hx).1
  have w1:IntKind.i64.wrap ((jR r.N s:Int)+1)=(jR r.N s:Int)+1:=wrap_i64 (by omega) (by omega)
  have hdr:=RA hr.srt (List.mem_of_getElem? hx)
  rw [h4] at hdr
  have hen:(bW r.N).take (jR r.N s)++(bW r.N).drop (jR r.N s+1)=bW (oB r.N s):=by rw [hdr];simp [bW,List.map_take,List.map_drop]
  have hlen:r.N.length-1=(oB r.N s).length:=by rw [hdr,List.length_append,List.length_take,List.length_drop];omega
  have hck:∀ {h:aC} {K:DV→aC→Prop},h[1]? = some (.arr 2 (bW r.N) false)→K (.c (.own h.length 0 r.N.length)) (h++[.arr 2 (bW r.N) false])→aA Tryz.prog 68 [.c (.own 1 0 r.N.length)] h K:=fun h0 hk=>MM (by omega) rfl h0 hk
  have hdk:∀ {h:aC} {K:DV→aC→Prop},h[4]? = some (.arr 2 (bW r.N) false)→K (.c (.own h.length 0 (oB r.N s).length)) (h.set 4 .dead++[.arr 2 (bW (oB r.N s)) false])→aA Tryz.prog 67 [.c (.own 4 0 r.N.length),.c (.p (.i .i64 (jR r.N s))),.c (.p (.i .i64 ((jR r.N s:Int)+1)))] h K:=fun h0 hk=>aA.mono (zJa h0 (gE _) hlt) (by rintro _ _ ⟨rfl,rfl⟩;rw [hen,hlen];exact hk)
  generalize CL ⟨oB r.N s,r.L,r.E,r.x⟩=c at hcl ⊢
  generalize jR r.N s=i at hf w1 hdk
  generalize oB r.N s=M at hcl hdk
  unfold bH at hcl
  simp only at hcl
  clear h1 h2 h3 hx h4 hdr hen hlen hlt hgr
  refine aA.perm [0,2,3,4,6,7,8] (d1:=.c (.p (.i .i64 0))) (h1:=[.box [.own 6 0 c.N.length,.own 7 0 c.L.length,.mp 8,.p (.i .i64 c.x)],.arr 2 (bW r.N) false,.dead,.dead,.dead,.dead,.arr 2 (bW c.N) false,.arr 4 (dS c.L) false,.mp (wC c.E)]) ?_ rfl rfl (by unfold fO;exact (by simp only [eO,fJ,fL,eP,jS];(repeat' (first|exact rfl|exact True.intro|refine And.intro ?_ ?_))))
  refine sK aB aK Tryz.func22 rfl rfl fun X0 hX=>?_
  simp only [Tryz.f22,go_sem]
  repeat' (first|simp only [*,go_sem,Nat.reduceLT,Nat.reduceLeDiff,Nat.reduceEqDiff,↓reduceIte,Nat.reduceAdd,Nat.reduceSub,Bool.not_true]|((with_reducible refine aL [0,1,2,3] (hf) ?_ ?_ ?_ ?_);exact rfl;exact rfl;(focus ((simp only [go_sem];done))))|refine hck rfl ?_|refine hdk rfl ?_|((with_reducible refine aL [0,5,2,3] (hcl) ?_ ?_ ?_ ?_);exact rfl;exact rfl;(focus ((simp only [go_sem];done)))))
theorem zHb {r r':Rm} {d:Dr} {e:Int} {s:List UInt8} (h:Sim r d) (he:JK r s=(r',e)):aA Tryz.prog 22 [.c (.ptr 0 0),.c (.p (.s s))] (bH r) fun d h=>d=.c (.p (.i .i64 e))∧h=fO r':=by
 have:=WU (s:=s) h.okR h.okG (zEX h s)
 rw [he] at this
 exact this
end
end Go.Proofs.YtbpblnmhlhpebaaGreatDoor
namespace Go.Dm
open Go
section
def kdA:It:=⟨[97],⟨2,493,0,[]⟩⟩
def kdB:It:=⟨[98],⟨2,493,0,[]⟩⟩
def kdC:It:=⟨[99],⟨2,493,0,[]⟩⟩
theorem zCZ:OkT [kdA]:=⟨⟨by decide +kernel,by
 intro x hx
 simp only [List.mem_cons,List.not_mem_nil,or_false] at hx
 rcases hx with rfl <;> exact ⟨by decide,by decide +kernel,by decide +kernel,by decide⟩,by decide⟩,by
 intro x hx
 simp only [List.mem_cons,List.not_mem_nil,or_false] at hx
 rcases hx with rfl <;> decide +kernel⟩
theorem SH:OkT [kdA,kdB]:=⟨⟨by decide +kernel,by
 intro x hx
 simp only [List.mem_cons,List.not_mem_nil,or_false] at hx
 rcases hx with rfl|rfl <;> exact ⟨by decide,by decide +kernel,by decide +kernel,by decide⟩,by decide⟩,by
 intro x hx
 simp only [List.mem_cons,List.not_mem_nil,or_false] at hx
 rcases hx with rfl|rfl <;> decide +kernel⟩
theorem uC:OkT [kdA,kdC]:=⟨⟨by decide +kernel,by
 intro x hx
 simp only [List.mem_cons,List.not_mem_nil,or_false] at hx
 rcases hx with rfl|rfl <;> exact ⟨by decide,by decide +kernel,by decide +kernel,by decide⟩,by decide⟩,by
 intro x hx
 simp only [List.mem_cons,List.not_mem_nil,or_false] at hx
 rcases hx with rfl|rfl <;> decide +kernel⟩
theorem zIa:OkT [kdA,kdB,kdC]:=⟨⟨by decide +kernel,by
 intro x hx
 simp only [List.mem_cons,List.not_mem_nil,or_false] at hx
 rcases hx with rfl|rfl|rfl <;> exact ⟨by decide,by decide +kernel,by decide +kernel,by decide⟩,by decide⟩,by
 intro x hx
 simp only [List.mem_cons,List.not_mem_nil,or_false] at hx
 rcases hx with rfl|rfl|rfl <;> decide +kernel⟩
theorem zIz:dZ [kdA] [kdA,kdB] [kdA,kdC]=([kdA,kdB,kdC],[]):=by
 have hp:fX [kdA] [kdA,kdB] [kdA,kdC]=[[97],[98],[99]]:=by rw [← BB];rfl
 have h1:dE (dO [kdA] [kdA,kdB])=[]:=by
  unfold dE
  rw [if_pos (iM zCZ SH),← kZ zCZ SH];rfl
 have h2:dE (dO [kdA] [kdA,kdC])=[]:=by
  unfold dE
  rw [if_pos (iM zCZ uC),← kZ zCZ uC];rfl
 have hb:ZI [kdA] [kdA,kdB] [kdA,kdC]=[]:=by
  show tR (zGV [kdA] [kdA,kdB] [kdA,kdC])=[]
  have:zGV [kdA] [kdA,kdB] [kdA,kdC]=[]:=by
   unfold zGV FF
   rw [hp,h1,h2];rfl
  rw [this]
  exact List.mergeSort_nil
 unfold dZ
 rw [hb]
 unfold FF
 rw [hp]
 rfl
theorem zHV:dZ [kdA,kdC] [kdA,kdB] [kdA,kdC]=([kdA,kdB],[]):=by
 have hp:fX [kdA,kdC] [kdA,kdB] [kdA,kdC]=[[97],[98],[99]]:=by rw [← BB];rfl
 have h1:dE (dO [kdA,kdC] [kdA,kdB])=[]:=by
  unfold dE
  rw [if_pos (iM uC SH),← kZ uC SH];rfl
 have h2:dE (dO [kdA,kdC] [kdA,kdC])=[]:=by
  unfold dE
  rw [if_pos (iM uC uC),← kZ uC uC];rfl
 have hb:ZI [kdA,kdC] [kdA,kdB] [kdA,kdC]=[]:=by
  show tR (zGV [kdA,kdC] [kdA,kdB] [kdA,kdC])=[]
  have:zGV [kdA,kdC] [kdA,kdB] [kdA,kdC]=[]:=by
   unfold zGV FF
   rw [hp,h1,h2];rfl
  rw [this]
  exact List.mergeSort_nil
 unfold dZ
 rw [hb]
 unfold FF
 rw [hp]
 rfl
theorem zAs {d d':Dr} {o t s:List UInt8} {x:List It} (h1:(bN d.N o == 0 || bN d.N t == 0)=false) (h2:(!gU d (bN d.N o) || !gU d (bN d.N t))=false) (h3:(kK d s == 0)=true) (h4:rJ d (bN d.N o)=false)
  (hm:dZ (cQ d (AO d.G (bN d.N o) (bN d.N t))) (cQ d (bN d.N o)) (cQ d (bN d.N t))=(x,[])) (hx:decide (120<(x.length:Int))=false) (hg:uY d s (bN d.N o) (if bN d.N t == bN d.N o then 0 else bN d.N t) x=d'):uJ d o t s=(d',[],0):=by
 unfold uJ
 rw [h1,h2,h3,h4,hm]
 show (if decide (120<(x.length:Int))=true then ((d,[],16):Dr × List Cf × Int) else (uY d s (bN d.N o) (if bN d.N t == bN d.N o then 0 else bN d.N t) x,[],0))=_
 rw [hx,hg]
 rfl
theorem XN {d d':Dr} {s o:List UInt8} {x:List It} (h1:(bN d.N s == 0)=false) (h2:gU d (bN d.N s)=false) (h3:(bN d.N o == 0)=false) (h4:gU d (bN d.N o)=true) (h5:rJ d (bN d.N o)=false)
  (hm:dZ (cQ d (zLa d (bN d.N s))) (cQ d (bN d.N o)) (cQ d (bN d.N s))=(x,[])) (hx:(decide (120<(x.length:Int)) || decide (2147483647≤d.x))=false) (hg:uY d s (bN d.N o) 0 x=d'):pS d s o=(d',[],0):=by
 unfold pS
 rw [h1,h2,h3,h4,h5,hm]
 show (if (decide (120<(x.length:Int)) || decide (2147483647≤d.x))=true then ((d,[],16):Dr × List Cf × Int) else (uY d s (bN d.N o) 0 x,[],0))=_
 rw [hx,hg]
 rfl
def sO:List UInt8:=[111]
def sT:List UInt8:=[116]
def sM:List UInt8:=[109]
def sW:List UInt8:=[119]
def k1D:Dr:=⟨[(⟨1,0,0,true⟩,[]),(⟨2,1,0,false⟩,[kdA])],[⟨dP,2⟩],3⟩
def k2D:Dr:=⟨[(⟨1,0,0,true⟩,[]),(⟨2,1,0,true⟩,[kdA]),(⟨3,2,0,false⟩,[kdA])],[⟨dP,3⟩,⟨v1S,2⟩],4⟩
def k3D:Dr:=⟨[(⟨1,0,0,true⟩,[]),(⟨2,1,0,true⟩,[kdA]),(⟨3,2,0,false⟩,[kdA]),(⟨4,2,0,false⟩,[kdA])],[⟨dP,3⟩,⟨v1S,2⟩,⟨sW,4⟩],5⟩
def k5D:Dr:=⟨[(⟨1,0,0,true⟩,[]),(⟨2,1,0,true⟩,[kdA]),(⟨3,2,0,false⟩,[kdA,kdB]),(⟨4,2,0,false⟩,[kdA,kdC])],[⟨dP,3⟩,⟨v1S,2⟩,⟨sW,4⟩],5⟩
def k7D:Dr:=⟨[(⟨1,0,0,true⟩,[]),(⟨2,1,0,true⟩,[kdA]),(⟨3,2,0,true⟩,[kdA,kdB]),(⟨4,2,0,true⟩,[kdA,kdC]),(⟨5,3,0,false⟩,[kdA,kdB]),(⟨6,4,0,false⟩,[kdA,kdC])],[⟨dP,5⟩,⟨sO,3⟩,⟨sT,4⟩,⟨v1S,2⟩,⟨sW,6⟩],7⟩
def k8D:Dr:=⟨[(⟨1,0,0,true⟩,[]),(⟨2,1,0,true⟩,[kdA]),(⟨3,2,0,true⟩,[kdA,kdB]),(⟨4,2,0,true⟩,[kdA,kdC]),(⟨5,3,0,false⟩,[kdA,kdB]),(⟨6,4,0,false⟩,[kdA,kdC]),(⟨7,3,4,false⟩,[kdA,kdB,kdC])],[⟨sM,7⟩,⟨dP,5⟩,⟨sO,3⟩,⟨sT,4⟩,⟨v1S,2⟩,⟨sW,6⟩],8⟩
def k9D:Dr:=⟨[(⟨1,0,0,true⟩,[]),(⟨2,1,0,true⟩,[kdA]),(⟨3,2,0,true⟩,[kdA,kdB]),(⟨4,2,0,true⟩,[kdA,kdC]),(⟨5,3,0,false⟩,[kdA,kdB]),(⟨7,3,4,false⟩,[kdA,kdB,kdC]),(⟨8,3,0,false⟩,[kdA,kdB])],[⟨sM,7⟩,⟨dP,5⟩,⟨sO,3⟩,⟨sT,4⟩,⟨v1S,2⟩,⟨sW,8⟩],9⟩
theorem zJl:uJ k7D sO sT sM=(k8D,[],0):=zAs (by decide +kernel) (by decide +kernel) (by decide +kernel) (by decide +kernel) zIz rfl (by kernel_rfl)
theorem zFf:pS k8D sW sO=(k9D,[],0):=XN (by decide +kernel) (by decide +kernel) (by decide +kernel) (by decide +kernel) (by decide +kernel) zHV (by decide +kernel) (by kernel_rfl)
theorem zJ4:(dO [kdA] [kdA,kdB,kdC]).length=2:=by
 rw [← kZ zCZ zIa];rfl
def zEl:List UInt8:=[110,111,110,101]
def zJm:List UInt8:=[110,111,47,103,111,111,100]
def xS:List UInt8:=[120]
def zS:List UInt8:=[122]
def v2S:List UInt8:=[118,50]
def k4D:Dr:=⟨[(⟨1,0,0,true⟩,[]),(⟨2,1,0,true⟩,[kdA]),(⟨3,2,0,false⟩,[kdA,kdB]),(⟨4,2,0,false⟩,[kdA])],[⟨dP,3⟩,⟨v1S,2⟩,⟨sW,4⟩],5⟩
def k6D:Dr:=⟨[(⟨1,0,0,true⟩,[]),(⟨2,1,0,true⟩,[kdA]),(⟨3,2,0,true⟩,[kdA,kdB]),(⟨4,2,0,false⟩,[kdA,kdC]),(⟨5,3,0,false⟩,[kdA,kdB])],[⟨dP,5⟩,⟨sO,3⟩,⟨v1S,2⟩,⟨sW,4⟩],6⟩
def zMj:Dr:=⟨k9D.L,[⟨sM,7⟩,⟨dP,5⟩,⟨sO,3⟩,⟨sT,4⟩,⟨sW,8⟩],9⟩
theorem zL4:doD GQ zEl (mkS [97])=(GQ,anE 6):=by kernel_rfl
theorem zL7:doD GQ dP (mkS [97])=(k1D,anE 0):=by kernel_rfl
theorem zMe:fH k1D dP dP=(k1D,7):=by kernel_rfl
theorem zMg:fH k1D dP zJm=(k1D,1):=by kernel_rfl
theorem zL2:fH k1D zEl xS=(k1D,6):=by kernel_rfl
theorem zLz:fH k1D dP v1S=(k2D,0):=by kernel_rfl
theorem zLP:fH k2D v1S v2S=(k2D,14):=by kernel_rfl
theorem zL1:XU k2D dP sW=(k2D,13):=by kernel_rfl
theorem zLJ:XU k2D v1S sW=(k3D,0):=by kernel_rfl
theorem zLK:doD k3D dP (mkS [98])=(k4D,anE 0):=by kernel_rfl
theorem zLD:doD k4D sW (mkS [99])=(k5D,anE 0):=by kernel_rfl
theorem zLL:fH k5D dP sO=(k6D,0):=by kernel_rfl
theorem zLY:fH k6D sW sT=(k7D,0):=by kernel_rfl
theorem zIR:lX k8D sM=([kdA,kdB,kdC],0):=by kernel_rfl
theorem zEE:uJ k8D sO dP zS=(k8D,[],13):=by kernel_rfl
theorem zIF:lX k9D sW=([kdA,kdB],0):=by kernel_rfl
theorem zIX:lX k9D v1S=([kdA],0):=by kernel_rfl
theorem zHq:lX k9D sM=([kdA,kdB,kdC],0):=by kernel_rfl
theorem zLn:ZA k9D zEl=(k9D,6):=by kernel_rfl
theorem zLy:ZA k9D v1S=(zMj,0):=by kernel_rfl
theorem zI9:lX zMj v1S=([],6):=by kernel_rfl
end
end Go.Dm
