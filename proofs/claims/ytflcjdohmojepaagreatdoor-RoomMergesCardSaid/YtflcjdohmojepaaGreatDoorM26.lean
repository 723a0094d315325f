/- Part 27 of the proof of roomMerges_card, set without needless blanks. No condition. -/
import Derived.Shelf.Spec.SlicesInsertGrow
import Derived.Shelf.SlGeneric
set_option linter.all false
set_option maxRecDepth 100000
set_option maxHeartbeats 16000000
section
namespace Go.Dm
open Go Go.Lib Go.Proofs Go.RowKit Go.Shelf
section
structure InsL (P:Program) (ρ:Ren):Prop where
  mixed:P.follows .mixedOrders=true
  f22:Bears P (ρ.f 22) (Body2.n22 ρ)
  ov:∀(xs:Array Value) (w w':World) (v:Value),(Extern.SlicesOverlaps.overlaps #[ρ.t 24,ρ.t 24] #[ρ.t 4] xs).run P w=.ok v w'->(callFunc (ρ.f 29) xs).run P w=.ok (.value v) w'
  t0:P.underlying (ρ.t 0)=some (TypeDesc.tuple #[])
  a0:∀w,(isAgg (ρ.t 0)).run P w=.ok false w
  z0:∀w,(Go.sizeOf (ρ.t 0)).run P w=.ok 1 w
  v0:∀w,(zeroValue (ρ.t 0)).run P w=.ok (Value.tuple #[]) w
  t3:P.underlying (ρ.t 3)=some (TypeDesc.int IntKind.i64)
  a3:∀w,(isAgg (ρ.t 3)).run P w=.ok false w
  z3:∀w,(Go.sizeOf (ρ.t 3)).run P w=.ok 1 w
  v3:∀w,(zeroValue (ρ.t 3)).run P w=.ok (Value.int IntKind.i64 0) w
  t4:P.underlying (ρ.t 4)=some (TypeDesc.bool)
  a4:∀w,(isAgg (ρ.t 4)).run P w=.ok false w
  z4:∀w,(Go.sizeOf (ρ.t 4)).run P w=.ok 1 w
  v4:∀w,(zeroValue (ρ.t 4)).run P w=.ok (Value.bool false) w
  t24:P.underlying (ρ.t 24)=some (TypeDesc.slice (ρ.t 9))
  a24:∀w,(isAgg (ρ.t 24)).run P w=.ok false w
  z24:∀w,(Go.sizeOf (ρ.t 24)).run P w=.ok 1 w
  v24:∀w,(zeroValue (ρ.t 24)).run P w=.ok (Value.slice none 0 0) w
variable {P:Program}{ρ:Ren}
theorem vF(w:World)(dT sT ty elem:TypeId)(i:TypeInfo)(n b o dLen dCap:Nat)(a:Addr)(sLen sCap:Nat)(cs:List Value)
    (hu:P.underlying dT=some (.slice elem))(hi:P.info? elem=some i)(hn:n=Nat.min sLen dLen)(hl:cs.length=n*i.size)
    (hsrc:∀j v,cs[j]?=some v->w.cell? (a.add j)=some v)(hc:∀j,j<cs.length->(w.cell? ⟨b,o+j,none⟩).isSome=true)(hf:∀j,j<cs.length->w.frozen? ⟨b,o+j,none⟩=false)(h1:∀v∈cs,v.oneCell'=true):
    (Builtin.copy_ #[dT,sT] ty #[.slice (some ⟨b,o,none⟩) dLen dCap,.slice (some a) sLen sCap]).run P w=.ok (goInt n) (w.setCells b o cs):=by
  have hfc:=run_firstCells_some (P:=P) w i.size n a sLen sCap cs hl hsrc;have hst:=run_storeCells_cells (P:=P) b o cs 0 w (by simpa using hc) (by simpa using hf) h1;simp only[Nat.add_zero] at hst;simp[Builtin.copy_,run_underlying hu,Builtin.lenOf,sizeOf,typeInfo,hi,<- hn,hfc,hst]
set_option maxHeartbeats 4000000 in
theorem zMO(L:InsL P ρ)(i0:TypeInfo)(hi0:P.info? (ρ.t 9)=some i0)(base:Option Addr)(n c:Nat)(vb:Addr)(m vc:Nat)(w w':World)(v':Value)(hm:0<m)(hnc:n<=c)(hnil:base=none->n=0)
    (hr:∀ty,(Builtin.append_ #[(ρ.t 24),(ρ.t 24)] ty #[.slice base n c,.slice (some vb) m vc]).run P w=.ok v' w'):
    Calls P (ρ.f 22) #[.slice base n c,.int .i64 n,.slice (some vb) m vc] w λe w1=>e=.returned v'/\w1=w':=by
  have t0:=L.t0;have a0:=L.a0;have z0:=L.z0;have v0:=L.v0;have t3:=L.t3;have a3:=L.a3;have z3:=L.z3;have v3:=L.v3;have t4:=L.t4;have a4:=L.a4;have z4:=L.z4;have v4:=L.v4;have t24:=L.t24;have a24:=L.a24;have z24:=L.z24;have v24:=L.v24;have u0:=run_underlying L.t0;have u3:=run_underlying L.t3;have u4:=run_underlying L.t4;have u24:=run_underlying L.t24;have mixed:=L.mixed;obtain⟨_,_,FI⟩:=L.f22;have z9:∀w,(Go.sizeOf (ρ.t 9)).run P w=.ok i0.size w:=λw=>by simp[Go.sizeOf,typeInfo,hi0]
  have hz1:¬ ((m:Int)=0):=by omega
  go_enter FI,Body2.n22_ntmps ρ
  cases base with
  | none =>
    have h0:=hnil rfl;subst h0
    go_wp2_with (at_builtin;refine Lib.wpList_append_run _ rfl _ _ _ _ rfl _ _ rfl rfl _ _ (hr _) ?_)
    go_ret
    exact⟨rfl,rfl⟩
  | some a =>
    obtain⟨ab,ao,asp⟩:=a
    go_wp2_with (at_builtin;refine Lib.wpList_append_run _ rfl _ _ _ _ rfl _ _ rfl rfl _ _ (hr _) ?_)
    all_goals (go_ret;exact⟨rfl,rfl⟩)
set_option maxHeartbeats 4000000 in
theorem zFv(L:InsL P ρ)(i0:TypeInfo)(hi0:P.info? (ρ.t 9)=some i0)(k:Nat)(hk:i0.size=k)(hk0:0<k)(b off n c i vb voff m vc:Nat)(cs vs:List Value)(w:World)(hi:i<n)(hm:0<m)(hroom:n+m<=c)(hc63:c<=9223372036854775807)(hvb:vb≠b)
    (hcl:cs.length=n*k)(hvl:vs.length=m*k)
    (hcs:∀j v,cs[j]?=some v->w.cell? ⟨b,off+j,none⟩=some v)(hsp:∀j,j<(n+m)*k->(w.cell? ⟨b,off+j,none⟩).isSome=true)(hfz:∀j,j<(n+m)*k->w.frozen? ⟨b,off+j,none⟩=false)
    (hvs:∀j v,vs[j]?=some v->w.cell? ⟨vb,voff+j,none⟩=some v)(h1c:∀v∈cs,v.oneCell'=true)(h1v:∀v∈vs,v.oneCell'=true)
    (tA tB:TypeId)(kA kB:Nat)(hsa:w.shape? vb=some (tA,kA))(hsb:w.shape? b=some (tB,kB))(hkB:kB≠0)(hfa:w.frozen? ⟨vb,voff,none⟩=false)(hfe:w.frozen? ⟨vb,kA,none⟩=false):
    Calls P (ρ.f 22) #[.slice (some ⟨b,off,none⟩) n c,.int .i64 i,.slice (some ⟨vb,voff,none⟩) m vc] w λe w' =>
      e=.returned (.slice (some ⟨b,off,none⟩) (n+m) c)/\w'=(w.drew.setCells b (off+(i+m)*k) (cs.drop (i*k))).setCells b (off+i*k) vs:=by
  have t0:=L.t0;have a0:=L.a0;have z0:=L.z0;have v0:=L.v0;have t3:=L.t3;have a3:=L.a3;have z3:=L.z3;have v3:=L.v3;have t4:=L.t4;have a4:=L.a4;have z4:=L.z4;have v4:=L.v4;have t24:=L.t24;have a24:=L.a24;have z24:=L.z24;have v24:=L.v24;have u0:=run_underlying L.t0;have u3:=run_underlying L.t3;have u4:=run_underlying L.t4;have u24:=run_underlying L.t24;have mixed:=L.mixed;obtain⟨_,_,FI⟩:=L.f22;have z9:∀w,(Go.sizeOf (ρ.t 9)).run P w=.ok k w:=λw=>by simp[Go.sizeOf,typeInfo,hi0,hk]
  have hz1:¬ ((m:Int)=0):=by omega
  have hz2:¬ ((i:Int)=(n:Int)):=by omega
  have hov:∀lb cb,(callFunc (ρ.f 29) #[.slice (some ⟨vb,voff,none⟩) m vc,.slice (some ⟨b,off+(i+m)*k,none⟩) lb cb]).run P w=.ok (.value (.bool false)) w:=λlb cb =>
    L.ov _ _ _ _ (Lib.run_overlaps_apart w (ρ.t 24) (ρ.t 4) (ρ.t 9) L.t24 k z9 ⟨vb,voff,none⟩ ⟨b,off+(i+m)*k,none⟩ m vc lb cb hvb tA tB kA kB hsa hsb hkB hfa hfe)
  have hdl:(cs.drop (i*k)).length=(n-i)*k:=by rw[List.length_drop,hcl,Nat.sub_mul]
  have hw1:IntKind.i64.wrap ((i:Int)+(m:Int))=(i:Int)+(m:Int):=by rw[IntKind.wrap_i64];omega
  have hb1:(0:Int)<=(i:Int)+(m:Int):=by omega
  have hin:i<=n:=by omega
  have htn:((i:Int)+(m:Int)).toNat=i+m:=by omega
  have hb2:¬ (c=i+m):=by omega
  have hb3:(i:Int)<=(n:Int)+(m:Int):=by omega
  have hb4:¬ (c=i):=by omega
  have e1:(i+m)*k=i*k+m*k:=Nat.add_mul _ _ _;have e2:(n-i)*k+(i+m)*k=(n+m)*k:=by rw[<- Nat.add_mul];congr 1;omega
  have e3:(n+m)*k=n*k+m*k:=Nat.add_mul _ _ _;have e4:i*k<=n*k:=Nat.mul_le_mul_right _ hin;have hcp1:∀ty dc sc,(Builtin.copy_ #[(ρ.t 24),(ρ.t 24)] ty #[.slice (some ⟨b,off+(i+m)*k,none⟩) (n+m-(i+m)) dc,.slice (some ⟨b,off+i*k,none⟩) (n+m-i) sc]).run P w.drew=.ok (goInt (n-i:Nat)) (w.drew.setCells b (off+(i+m)*k) (cs.drop (i*k))):=λty dc sc =>
    vF w.drew _ _ ty (ρ.t 9) i0 (n-i) b (off+(i+m)*k) (n+m-(i+m)) dc ⟨b,off+i*k,none⟩ (n+m-i) sc (cs.drop (i*k)) L.t24 hi0 (by simp only[Nat.min_def];split<;>omega) (by rw[hk];exact hdl)
      (λj v hj=>by rw[Addr.add_lit,Nat.add_assoc];exact hcs (i*k+j) v (by rwa[List.getElem?_drop] at hj))
      (λj hj=>by rw[Nat.add_assoc];exact hsp _ (by omega)) (λj hj=>by rw[Nat.add_assoc];exact hfz _ (by omega)) (λv hv=>h1c v (List.mem_of_mem_drop hv))
  obtain ⟨W1,hW1⟩:∃W1,W1=w.drew.setCells b (off+(i+m)*k) (cs.drop (i*k)):=⟨_,rfl⟩;have hsp1:∀q,q<(n+m)*k->(W1.cell? ⟨b,off+q,none⟩).isSome=true:=λq hq=>by
    rw[hW1];exact isSome_setCells b _ _ _ (λj hj=>by rw[Nat.add_assoc];exact hsp _ (by omega)) _ (hsp q hq)
  have hcp2:∀(W:World),(∀x,W.cell? x=W1.cell? x)->(∀x,W.frozen? x=W1.frozen? x)->∀ty dc,(Builtin.copy_ #[(ρ.t 24),(ρ.t 24)] ty #[.slice (some ⟨b,off+i*k,none⟩) (n+m-i) dc,.slice (some ⟨vb,voff,none⟩) m vc]).run P W=.ok (goInt (m:Nat)) (W.setCells b (off+i*k) vs):=λW hWc hWf ty dc =>
    vF W _ _ ty (ρ.t 9) i0 m b (off+i*k) (n+m-i) dc ⟨vb,voff,none⟩ m vc vs L.t24 hi0 (by simp only[Nat.min_def];split<;>omega) (by rw[hk];exact hvl)
      (fun j v hj=>by
        rw[Addr.add_lit,hWc,hW1,World.cell?_setCells_out b _ _ _ _ (λh _=>absurd h hvb)];exact hvs j v hj)
      (λj hj=>by rw[hWc,Nat.add_assoc];exact hsp1 _ (by omega)) (λj hj=>by rw[hWf,hW1,World.frozen?_setCells,Nat.add_assoc];exact hfz _ (by omega)) h1v
  rw[<- hW1] at hcp1;rw[e1] at hcp1;simp only[e1] at hov
  go_enter FI,Body2.n22_ntmps ρ
  go_wp2_with (simp only[hov])
  go_region_law_o (refine step_copy_runI rfl _ _ (ρ.t 24) (ρ.t 24) rfl _ _ (by simp[Act.eval,Act.put]) (by simp[Act.eval,Act.put]) (hcp1 _ _ _) ?_)
  go_wp2_with (at_builtin;refine wpList_copy_runI _ rfl _ _ (ρ.t 24) (ρ.t 24) rfl _ _ rfl rfl (hcp2 _ (λ_=>rfl) (λ_=>rfl) _ _) ?_)
  go_ret
  exact⟨rfl,by rw[e1]⟩
set_option maxHeartbeats 4000000 in
theorem zJy(L:InsL P ρ)(i0:TypeInfo)(hi0:P.info? (ρ.t 9)=some i0)(z:Value)(hz0:i0.zero=some z)(k:Nat)(hk:i0.size=k)(hk0:0<k)(hzk:z.cells.size=k)(b off n c i vb voff m vc:Nat)(cs vs:List Value)(w:World)(hi:i<n)(hm:0<m)(hnc:n<=c)(hroom:c<n+m)(hbig:(n+m)*i0.bytes<=140737488355328)(h63:n+m<=4611686018427387904)
    (hcl:cs.length=n*k)(hvl:vs.length=m*k)
    (hcs:∀j v,cs[j]?=some v->w.cell? ⟨b,off+j,none⟩=some v)
    (hvs:∀j v,vs[j]?=some v->w.cell? ⟨vb,voff+j,none⟩=some v)(h1c:∀v∈cs,v.oneCell'=true)(h1v:∀v∈vs,v.oneCell'=true):
    Calls P (ρ.f 22) #[.slice (some ⟨b,off,none⟩) n c,.int .i64 i,.slice (some ⟨vb,voff,none⟩) m vc] w λe w' =>
      e=.returned (.slice (some ⟨w.heap.size,0,none⟩) (n+m) (grownCap w (n+m) c (ρ.t 9))) /\
      w'=(((w.alloc (.cells ((cs.take (i*k)).toArray++Builtin.zeroCells z.cells (n+m-i)++Builtin.zeroCells z.cells (grownCap w (n+m) c (ρ.t 9)-(n+m))) (ρ.t 9))).drew.setCells w.heap.size (i*k) vs).drew).setCells w.heap.size (i*k+m*k) (cs.drop (i*k)):=by
  have t0:=L.t0;have a0:=L.a0;have z0:=L.z0;have v0:=L.v0;have t3:=L.t3;have a3:=L.a3;have z3:=L.z3;have v3:=L.v3;have t4:=L.t4;have a4:=L.a4;have z4:=L.z4;have v4:=L.v4;have t24:=L.t24;have a24:=L.a24;have z24:=L.z24;have v24:=L.v24;have u0:=run_underlying L.t0;have u3:=run_underlying L.t3;have u4:=run_underlying L.t4;have u24:=run_underlying L.t24;have mixed:=L.mixed;obtain⟨_,_,FI⟩:=L.f22;have z9:∀w,(Go.sizeOf (ρ.t 9)).run P w=.ok k w:=λw=>by simp[Go.sizeOf,typeInfo,hi0,hk]
  have hz1:¬ ((m:Int)=0):=by omega
  have hz2:¬ ((i:Int)=(n:Int)):=by omega
  have hz3:(c:Int)<(n:Int)+(m:Int):=by omega
  have hin:i<=n:=by omega
  have e1:(i+m)*k=i*k+m*k:=Nat.add_mul _ _ _;have e2:(n-i)*k+(i+m)*k=(n+m)*k:=by rw[<- Nat.add_mul];congr 1;omega
  have e3:(n+m)*k=n*k+m*k:=Nat.add_mul _ _ _;have e4:i*k<=n*k:=Nat.mul_le_mul_right _ hin;have e5:k<=m*k:=Nat.le_mul_of_pos_left k hm;have e6:k<=n*k:=Nat.le_mul_of_pos_left k (by omega);have hbw:b<w.heap.size:=block_lt_of_cell (hcs 0 _ (List.getElem?_eq_getElem (by omega)));have hvw:vb<w.heap.size:=block_lt_of_cell (hvs 0 _ (List.getElem?_eq_getElem (by omega)));have hkk:(n:Int)+(m:Int)-(i:Int)=((n+m-i:Nat):Int):=by omega
  have hik:i+(n+m-i)=n+m:=by omega
  have htl:(cs.take (i*k)).length=i*k:=by rw[List.length_take,hcl];omega
  have hold:(Builtin.firstCells i0.size i (.slice (some ⟨b,off,none⟩) i c)).run P w.drew=.ok (cs.take (i*k)).toArray w.drew :=
    run_firstCells_some w.drew i0.size i ⟨b,off,none⟩ i c (cs.take (i*k)) (by rw[htl,hk]) (λj v hj=>by
      rw[Addr.add_lit];rw[List.getElem?_take] at hj;split at hj
      · exact hcs j v hj
      · cases hj)
  have hrz:∀ty,(Builtin.append_ #[(ρ.t 24),(ρ.t 3)] ty #[.slice (some ⟨b,off,none⟩) i c,.int .i64 ((n:Int)+(m:Int)-(i:Int))]).run P w =
      .ok (.slice (some ⟨w.heap.size,0,none⟩) (n+m) (grownCap w (n+m) c (ρ.t 9))) (w.drew.alloc (.cells ((cs.take (i*k)).toArray++Builtin.zeroCells z.cells (n+m-i)++Builtin.zeroCells z.cells (grownCap w (n+m) c (ρ.t 9)-(n+m))) (ρ.t 9))):=λty=>by
    have h:=Lib.run_append_grow_zeros w (ρ.t 24) (ρ.t 3) ty (ρ.t 9) i0 z .i64 .i64 L.t24 L.t3 hi0 hz0 (some ⟨b,off,none⟩) i c (cs.take (i*k)) hold (n+m-i) (by omega) (by omega) (by omega) (by omega)
      (by have:(n+m-i)*i0.bytes<=(n+m)*i0.bytes:=Nat.mul_le_mul_right _ (by omega)
          omega) (by rw[hik];exact growslice_fits hroom hbig)
    rw[hik] at h;rw[hkk];exact h
  obtain ⟨G,hG⟩:∃G,G=grownCap w (n+m) c (ρ.t 9):=⟨_,rfl⟩;obtain⟨ROW,hROW⟩:∃ROW:Array Value,ROW=(cs.take (i*k)).toArray++Builtin.zeroCells z.cells (n+m-i)++Builtin.zeroCells z.cells (G-(n+m)):=⟨_,rfl⟩;rw[<- hG] at hrz ⊢;rw[<- hROW] at hrz ⊢;have hRl:(n+m)*k<=ROW.size:=by
    rw[hROW];have e7:i*k+(n+m-i)*k=(n+m)*k:=by rw[<- Nat.add_mul,hik]
    simp only[Array.size_append,List.size_toArray,htl,size_zeroCells,hzk];omega
  obtain ⟨W1,hW1⟩:∃W1,W1=w.drew.alloc (.cells ROW (ρ.t 9)):=⟨_,rfl⟩;rw[<- hW1] at hrz;have hN:∀j,j<(n+m)*k->(W1.cell? ⟨w.heap.size,j,none⟩).isSome=true:=λj hj=>by
    rw[hW1,World.cell?_alloc_at (w:=w.drew) ROW _ w.heap.size j rfl,Array.getElem?_eq_getElem (by omega)];rfl
  have hNf:∀j,W1.frozen? ⟨w.heap.size,j,none⟩=false:=λj=>by rw[hW1];exact World.frozen?_alloc_at (w:=w.drew) ROW _ w.heap.size j rfl
  have hOb:∀j v,w.cell? ⟨b,j,none⟩=some v->W1.cell? ⟨b,j,none⟩=some v:=λj v h=>by rw[hW1,World.cell?_alloc_past (w:=w.drew) _ b j hbw];exact h
  have hOv:∀j v,w.cell? ⟨vb,j,none⟩=some v->W1.cell? ⟨vb,j,none⟩=some v:=λj v h=>by rw[hW1,World.cell?_alloc_past (w:=w.drew) _ vb j hvw];exact h
  have hcpA:∀(W:World),(∀x,W.cell? x=W1.cell? x)->(∀x,W.frozen? x=W1.frozen? x)->∀ty dc,(Builtin.copy_ #[(ρ.t 24),(ρ.t 24)] ty #[.slice (some ⟨w.heap.size,i*k,none⟩) (n+m-i) dc,.slice (some ⟨vb,voff,none⟩) m vc]).run P W=.ok (goInt (m:Nat)) (W.setCells w.heap.size (i*k) vs):=λW hWc hWf ty dc =>
    vF W _ _ ty (ρ.t 9) i0 m w.heap.size (i*k) (n+m-i) dc ⟨vb,voff,none⟩ m vc vs L.t24 hi0 (by simp only[Nat.min_def];split<;>omega) (by rw[hk];exact hvl)
      (λj v hj=>by rw[Addr.add_lit,hWc];exact hOv _ v (hvs j v hj))
      (λj hj=>by rw[hWc];exact hN _ (by omega)) (λj hj=>by rw[hWf];exact hNf _) h1v
  have hGn:n+m<=G:=by rw[hG];exact grownCap_ge w _ _ _
  have hG63:G<=9223372036854775807:=by
    have:=grownCap_le_maxLen w (n+m) c (ρ.t 9) (by unfold maxLen;omega);rw[<- hG] at this;unfold maxLen at this;omega
  have hGi:¬ (G=i):=by omega
  have hGim:¬ (G=i+m):=by omega
  have hci:¬ (c=i):=by omega
  have hbN:b≠w.heap.size:=by omega
  have hdl:(cs.drop (i*k)).length=(n-i)*k:=by rw[List.length_drop,hcl,Nat.sub_mul]
  have hcpB:∀(W:World),(∀x,W.cell? x=(W1.setCells w.heap.size (i*k) vs).cell? x)->(∀x,W.frozen? x=(W1.setCells w.heap.size (i*k) vs).frozen? x)->∀ty dc sc,(Builtin.copy_ #[(ρ.t 24),(ρ.t 24)] ty #[.slice (some ⟨w.heap.size,i*k+m*k,none⟩) (n+m-(i+m)) dc,.slice (some ⟨b,off+i*k,none⟩) (n-i) sc]).run P W=.ok (goInt (n-i:Nat)) (W.setCells w.heap.size (i*k+m*k) (cs.drop (i*k))):=λW hWc hWf ty dc sc =>
    vF W _ _ ty (ρ.t 9) i0 (n-i) w.heap.size (i*k+m*k) (n+m-(i+m)) dc ⟨b,off+i*k,none⟩ (n-i) sc (cs.drop (i*k)) L.t24 hi0 (by simp only[Nat.min_def];split<;>omega) (by rw[hk];exact hdl)
      (fun j v hj=>by
        rw[Addr.add_lit,hWc,World.cell?_setCells_out _ _ _ _ _ (λh _=>absurd h hbN),Nat.add_assoc];exact hOb _ v (hcs (i*k+j) v (by rwa[List.getElem?_drop] at hj)))
      (λj hj=>by rw[hWc];exact isSome_setCells _ _ _ _ (λt ht=>hN _ (by omega)) _ (hN _ (by omega)))
      (λj hj=>by rw[hWf,World.frozen?_setCells];exact hNf _) (λv hv=>h1c v (List.mem_of_mem_drop hv))
  subst hW1;have hE1:∀x,((w.alloc (.cells ROW (ρ.t 9))).drew).cell? x=(w.drew.alloc (.cells ROW (ρ.t 9))).cell? x:=λx=>rfl;have hE2:∀x,((w.alloc (.cells ROW (ρ.t 9))).drew).frozen? x=(w.drew.alloc (.cells ROW (ρ.t 9))).frozen? x:=λx=>rfl;have hF1:∀x,(((w.alloc (.cells ROW (ρ.t 9))).drew.setCells w.heap.size (i*k) vs).drew).cell? x=((w.drew.alloc (.cells ROW (ρ.t 9))).setCells w.heap.size (i*k) vs).cell? x:=λx=>rfl;have hF2:∀x,(((w.alloc (.cells ROW (ρ.t 9))).drew.setCells w.heap.size (i*k) vs).drew).frozen? x=((w.drew.alloc (.cells ROW (ρ.t 9))).setCells w.heap.size (i*k) vs).frozen? x:=λx=>rfl;have hw1:IntKind.i64.wrap ((i:Int)+(m:Int))=(i:Int)+(m:Int):=by rw[IntKind.wrap_i64];omega
  have hb1:(0:Int)<=(i:Int)+(m:Int):=by omega
  have htn:((i:Int)+(m:Int)).toNat=i+m:=by omega
  have hb3:(i:Int)<=(n:Int):=by omega
  clear hkk hik hold hROW hG hRl e1 e2 e3 e4 e5 e6
  go_enter FI,Body2.n22_ntmps ρ
  go_wp2_with (first
    | (at_builtin;refine Lib.wpList_append_run _ rfl _ _ _ _ rfl _ _ rfl rfl _ _ (hrz _) ?_)
    | (at_builtin;refine wpList_copy_runI _ rfl _ _ (ρ.t 24) (ρ.t 24) rfl _ _ rfl rfl (hcpA _ hE1 hE2 _ _) ?_)
    | (at_builtin;refine wpList_copy_runI _ rfl _ _ (ρ.t 24) (ρ.t 24) rfl _ _ rfl rfl (hcpB _ (λ_=>rfl) (λ_=>rfl) _ _ _) ?_))
  go_region_law_o (refine step_copy_runI rfl _ _ (ρ.t 24) (ρ.t 24) rfl (.slice (some ⟨w.heap.size,i*k+m*k,none⟩) (n+m-(i+m)) (G-(i+m))) (.slice (some ⟨b,off+i*k,none⟩) (n-i) (c-i)) (by simp[Act.eval,Act.put,Nat.add_mul]) (by simp[Act.eval,Act.put]) (hcpB _ hF1 hF2 (ρ.t 3) (G-(i+m)) (c-i)) ?_)
  go_wp2
  go_ret
  exact⟨rfl,rfl⟩
end
end Go.Dm
end
