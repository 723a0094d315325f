/- Part 21 of roomPlays_card. No condition. -/
import Derived.Shelf.Spec.SlicesInsertGrow
import Derived.Shelf.SlGeneric
set_option linter.all false
set_option maxRecDepth 100000
set_option maxHeartbeats 0
section
namespace Go.Dm
open Go Go.Lib Go.Proofs Go.RowKit Go.Shelf
section
structure InsL (P:Program) (ρ:Ren):Prop where
  mixed:P.follows .mixedOrders=true
  f22:Bears P (ρ.f 22) (Body2.n22 ρ)
  ov:∀(xs:Array Value) (w w':World) (v:Value),(Extern.SlicesOverlaps.overlaps #[ρ.t 24,ρ.t 24] #[ρ.t 4] xs).run P w=.ok v w'->(callFunc (ρ.f 29) xs).run P w=.ok (.value v) w'
  t0:P.underlying (ρ.t 0)=some (TypeDesc.tuple #[])
  a0:∀w,(isAgg (ρ.t 0)).run P w=.ok false w
  z0:∀w,(Go.sizeOf (ρ.t 0)).run P w=.ok 1 w
  v0:∀w,(zeroValue (ρ.t 0)).run P w=.ok (Value.tuple #[]) w
  t3:P.underlying (ρ.t 3)=some (TypeDesc.int IntKind.i64)
  a3:∀w,(isAgg (ρ.t 3)).run P w=.ok false w
  z3:∀w,(Go.sizeOf (ρ.t 3)).run P w=.ok 1 w
  v3:∀w,(zeroValue (ρ.t 3)).run P w=.ok (Value.int IntKind.i64 0) w
  t4:P.underlying (ρ.t 4)=some (TypeDesc.bool)
  a4:∀w,(isAgg (ρ.t 4)).run P w=.ok false w
  z4:∀w,(Go.sizeOf (ρ.t 4)).run P w=.ok 1 w
  v4:∀w,(zeroValue (ρ.t 4)).run P w=.ok (Value.bool false) w
  t24:P.underlying (ρ.t 24)=some (TypeDesc.slice (ρ.t 9))
  a24:∀w,(isAgg (ρ.t 24)).run P w=.ok false w
  z24:∀w,(Go.sizeOf (ρ.t 24)).run P w=.ok 1 w
  v24:∀w,(zeroValue (ρ.t 24)).run P w=.ok (Value.slice none 0 0) w
variable {P:Program}{ρ:Ren}
theorem yB(w:World)(m p ty d:TypeId)(i:TypeInfo)(n b o e g:Nat)(a:Addr)(c f:Nat)(cs:List Value)
    (q:P.underlying m=some (.slice d))(hi:P.info? d=some i)(r:n=Nat.min c e)(s:cs.length=n*i.size)
    (h:∀j v,cs[j]?=some v->w.cell? (a.add j)=some v)(t:∀j,j<cs.length->(w.cell? ⟨b,o+j,none⟩).isSome=true)(u:∀j,j<cs.length->w.frozen? ⟨b,o+j,none⟩=false)(h1:∀v∈cs,v.oneCell'=true):
    (Builtin.copy_ #[m,p] ty #[.slice (some ⟨b,o,none⟩) e g,.slice (some a) c f]).run P w=.ok (goInt n) (w.setCells b o cs):=by
  have l:=run_firstCells_some (P:=P) w i.size n a c f cs s h;have k:=run_storeCells_cells (P:=P) b o cs 0 w (by simpa using t) (by simpa using u) h1;simp only[Nat.add_zero] at k;simp[Builtin.copy_,run_underlying q,Builtin.lenOf,sizeOf,typeInfo,hi,<- r,l,k]
set_option maxHeartbeats 4000000 in
theorem zPJ(L:InsL P ρ)(i0:TypeInfo)(h:P.info? (ρ.t 9)=some i0)(b:Option Addr)(n c:Nat)(vb:Addr)(m vc:Nat)(w w':World)(l:Value)(H:0<m)(p:n<=c)(g:b=none->n=0)
    (o:∀ty,(Builtin.append_ #[(ρ.t 24),(ρ.t 24)] ty #[.slice b n c,.slice (some vb) m vc]).run P w=.ok l w'):
    Calls P (ρ.f 22) #[.slice b n c,.int .i64 n,.slice (some vb) m vc] w λe q=>e=.returned l/\q=w':=by
  have t0:=L.t0;have r:=L.a0;have s:=L.z0;have u:=L.v0;have t3:=L.t3;have v:=L.a3;have x:=L.z3;have y:=L.v3;have t4:=L.t4;have z:=L.a4;have A:=L.z4;have B:=L.v4;have t24:=L.t24;have i:=L.a24;have j:=L.z24;have k:=L.v24;have I:=run_underlying L.t0;have J:=run_underlying L.t3;have K:=run_underlying L.t4;have C:=run_underlying L.t24;have d:=L.mixed;obtain⟨_,_,D⟩:=L.f22;have M:∀w,(Go.sizeOf (ρ.t 9)).run P w=.ok i0.size w:=λw=>by simp[Go.sizeOf,typeInfo,h]
  have E:¬ ((m:Int)=0):=by omega
  go_enter D,Body2.n22_ntmps ρ
  cases b with
  | none =>
    have F:=g rfl;subst F
    go_wp2_with (at_builtin;refine Lib.wpList_append_run _ rfl _ _ _ _ rfl _ _ rfl rfl _ _ (o _) ?_)
    go_ret
    exact⟨rfl,rfl⟩
  | some a =>
    obtain⟨N,O,G⟩:=a
    go_wp2_with (at_builtin;refine Lib.wpList_append_run _ rfl _ _ _ _ rfl _ _ rfl rfl _ _ (o _) ?_)
    all_goals (go_ret;exact⟨rfl,rfl⟩)
set_option maxHeartbeats 4000000 in
theorem zHI(L:InsL P ρ)(i0:TypeInfo)(l:P.info? (ρ.t 9)=some i0)(k:Nat)(E:i0.size=k)(hk0:0<k)(b off n c i vb voff m vc:Nat)(cs vs:List Value)(w:World)(hi:i<n)(hm:0<m)(F:n+m<=c)(hc63:c<=9223372036854775807)(u:vb≠b)
    (G:cs.length=n*k)(H:vs.length=m*k)
    (I:∀j v,cs[j]?=some v->w.cell? ⟨b,off+j,none⟩=some v)(o:∀j,j<(n+m)*k->(w.cell? ⟨b,off+j,none⟩).isSome=true)(y:∀j,j<(n+m)*k->w.frozen? ⟨b,off+j,none⟩=false)
    (J:∀j v,vs[j]?=some v->w.cell? ⟨vb,voff+j,none⟩=some v)(K:∀v∈cs,v.oneCell'=true)(M:∀v∈vs,v.oneCell'=true)
    (tA tB:TypeId)(kA kB:Nat)(N:w.shape? vb=some (tA,kA))(O:w.shape? b=some (tB,kB))(Q:kB≠0)(R:w.frozen? ⟨vb,voff,none⟩=false)(S:w.frozen? ⟨vb,kA,none⟩=false):
    Calls P (ρ.f 22) #[.slice (some ⟨b,off,none⟩) n c,.int .i64 i,.slice (some ⟨vb,voff,none⟩) m vc] w λe w' =>
      e=.returned (.slice (some ⟨b,off,none⟩) (n+m) c)/\w'=(w.drew.setCells b (off+(i+m)*k) (cs.drop (i*k))).setCells b (off+i*k) vs:=by
  have t0:=L.t0;have a0:=L.a0;have z0:=L.z0;have v0:=L.v0;have t3:=L.t3;have a3:=L.a3;have z3:=L.z3;have v3:=L.v3;have t4:=L.t4;have a4:=L.a4;have z4:=L.z4;have v4:=L.v4;have t24:=L.t24;have T:=L.a24;have U:=L.z24;have V:=L.v24;have u0:=run_underlying L.t0;have u3:=run_underlying L.t3;have u4:=run_underlying L.t4;have u24:=run_underlying L.t24;have p:=L.mixed;obtain⟨_,_,FI⟩:=L.f22;have z9:∀w,(Go.sizeOf (ρ.t 9)).run P w=.ok k w:=λw=>by simp[Go.sizeOf,typeInfo,l,E]
  have hz1:¬ ((m:Int)=0):=by omega
  have hz2:¬ ((i:Int)=(n:Int)):=by omega
  have z:∀X Y,(callFunc (ρ.f 29) #[.slice (some ⟨vb,voff,none⟩) m vc,.slice (some ⟨b,off+(i+m)*k,none⟩) X Y]).run P w=.ok (.value (.bool false)) w:=λX Y =>
    L.ov _ _ _ _ (Lib.run_overlaps_apart w (ρ.t 24) (ρ.t 4) (ρ.t 9) L.t24 k z9 ⟨vb,voff,none⟩ ⟨b,off+(i+m)*k,none⟩ m vc X Y u tA tB kA kB N O Q R S)
  have Z:(cs.drop (i*k)).length=(n-i)*k:=by rw[List.length_drop,G,Nat.sub_mul]
  have hw1:IntKind.i64.wrap ((i:Int)+(m:Int))=(i:Int)+(m:Int):=by rw[IntKind.wrap_i64];omega
  have hb1:(0:Int)<=(i:Int)+(m:Int):=by omega
  have hin:i<=n:=by omega
  have htn:((i:Int)+(m:Int)).toNat=i+m:=by omega
  have hb2:¬ (c=i+m):=by omega
  have hb3:(i:Int)<=(n:Int)+(m:Int):=by omega
  have hb4:¬ (c=i):=by omega
  have e1:(i+m)*k=i*k+m*k:=Nat.add_mul _ _ _;have e2:(n-i)*k+(i+m)*k=(n+m)*k:=by rw[<- Nat.add_mul];congr 1;omega
  have e3:(n+m)*k=n*k+m*k:=Nat.add_mul _ _ _;have e4:i*k<=n*k:=Nat.mul_le_mul_right _ hin;have a:∀r s sc,(Builtin.copy_ #[(ρ.t 24),(ρ.t 24)] r #[.slice (some ⟨b,off+(i+m)*k,none⟩) (n+m-(i+m)) s,.slice (some ⟨b,off+i*k,none⟩) (n+m-i) sc]).run P w.drew=.ok (goInt (n-i:Nat)) (w.drew.setCells b (off+(i+m)*k) (cs.drop (i*k))):=λr s sc =>
    yB w.drew _ _ r (ρ.t 9) i0 (n-i) b (off+(i+m)*k) (n+m-(i+m)) s ⟨b,off+i*k,none⟩ (n+m-i) sc (cs.drop (i*k)) L.t24 l (by simp only[Nat.min_def];split<;>omega) (by rw[E];exact Z)
      (λj v g=>by rw[Addr.add_lit,Nat.add_assoc];exact I (i*k+j) v (by rwa[List.getElem?_drop] at g))
      (λj g=>by rw[Nat.add_assoc];exact o _ (by omega)) (λj g=>by rw[Nat.add_assoc];exact y _ (by omega)) (λv hv=>K v (List.mem_of_mem_drop hv))
  obtain ⟨A,d⟩:∃A,A=w.drew.setCells b (off+(i+m)*k) (cs.drop (i*k)):=⟨_,rfl⟩;have B:∀q,q<(n+m)*k->(A.cell? ⟨b,off+q,none⟩).isSome=true:=λq hq=>by
    rw[d];exact isSome_setCells b _ _ _ (λj g=>by rw[Nat.add_assoc];exact o _ (by omega)) _ (o q hq)
  have C:∀(W:World),(∀x,W.cell? x=A.cell? x)->(∀x,W.frozen? x=A.frozen? x)->∀r s,(Builtin.copy_ #[(ρ.t 24),(ρ.t 24)] r #[.slice (some ⟨b,off+i*k,none⟩) (n+m-i) s,.slice (some ⟨vb,voff,none⟩) m vc]).run P W=.ok (goInt (m:Nat)) (W.setCells b (off+i*k) vs):=λW D hWf r s =>
    yB W _ _ r (ρ.t 9) i0 m b (off+i*k) (n+m-i) s ⟨vb,voff,none⟩ m vc vs L.t24 l (by simp only[Nat.min_def];split<;>omega) (by rw[E];exact H)
      (fun j v g=>by
        rw[Addr.add_lit,D,d,World.cell?_setCells_out b _ _ _ _ (λh _=>absurd h u)];exact J j v g)
      (λj g=>by rw[D,Nat.add_assoc];exact B _ (by omega)) (λj g=>by rw[hWf,d,World.frozen?_setCells,Nat.add_assoc];exact y _ (by omega)) M
  rw[<- d] at a;rw[e1] at a;simp only[e1] at z
  go_enter FI,Body2.n22_ntmps ρ
  go_wp2_with (simp only[z])
  go_region_law_o (refine step_copy_runI rfl _ _ (ρ.t 24) (ρ.t 24) rfl _ _ (by simp[Act.eval,Act.put]) (by simp[Act.eval,Act.put]) (a _ _ _) ?_)
  go_wp2_with (at_builtin;refine wpList_copy_runI _ rfl _ _ (ρ.t 24) (ρ.t 24) rfl _ _ rfl rfl (C _ (λ_=>rfl) (λ_=>rfl) _ _) ?_)
  go_ret
  exact⟨rfl,by rw[e1]⟩
set_option maxHeartbeats 4000000 in
theorem zMc(L:InsL P ρ)(i0:TypeInfo)(r:P.info? (ρ.t 9)=some i0)(z:Value)(R:i0.zero=some z)(k:Nat)(O:i0.size=k)(hk0:0<k)(S:z.cells.size=k)(b off n c i vb voff m vc:Nat)(cs vs:List Value)(w:World)(hi:i<n)(hm:0<m)(hnc:n<=c)(A:c<n+m)(F:(n+m)*i0.bytes<=140737488355328)(h63:n+m<=4611686018427387904)
    (H:cs.length=n*k)(T:vs.length=m*k)
    (B:∀j v,cs[j]?=some v->w.cell? ⟨b,off+j,none⟩=some v)
    (I:∀j v,vs[j]?=some v->w.cell? ⟨vb,voff+j,none⟩=some v)(U:∀v∈cs,v.oneCell'=true)(V:∀v∈vs,v.oneCell'=true):
    Calls P (ρ.f 22) #[.slice (some ⟨b,off,none⟩) n c,.int .i64 i,.slice (some ⟨vb,voff,none⟩) m vc] w λe w' =>
      e=.returned (.slice (some ⟨w.heap.size,0,none⟩) (n+m) (grownCap w (n+m) c (ρ.t 9))) /\
      w'=(((w.alloc (.cells ((cs.take (i*k)).toArray++Builtin.zeroCells z.cells (n+m-i)++Builtin.zeroCells z.cells (grownCap w (n+m) c (ρ.t 9)-(n+m))) (ρ.t 9))).drew.setCells w.heap.size (i*k) vs).drew).setCells w.heap.size (i*k+m*k) (cs.drop (i*k)):=by
  have t0:=L.t0;have a0:=L.a0;have z0:=L.z0;have v0:=L.v0;have t3:=L.t3;have a3:=L.a3;have z3:=L.z3;have v3:=L.v3;have t4:=L.t4;have a4:=L.a4;have z4:=L.z4;have v4:=L.v4;have t24:=L.t24;have X:=L.a24;have Y:=L.z24;have Z:=L.v24;have u0:=run_underlying L.t0;have u3:=run_underlying L.t3;have u4:=run_underlying L.t4;have u24:=run_underlying L.t24;have C:=L.mixed;obtain⟨_,_,FI⟩:=L.f22;have z9:∀w,(Go.sizeOf (ρ.t 9)).run P w=.ok k w:=λw=>by simp[Go.sizeOf,typeInfo,r,O]
  have hz1:¬ ((m:Int)=0):=by omega
  have hz2:¬ ((i:Int)=(n:Int)):=by omega
  have hz3:(c:Int)<(n:Int)+(m:Int):=by omega
  have hin:i<=n:=by omega
  have e1:(i+m)*k=i*k+m*k:=Nat.add_mul _ _ _;have e2:(n-i)*k+(i+m)*k=(n+m)*k:=by rw[<- Nat.add_mul];congr 1;omega
  have e3:(n+m)*k=n*k+m*k:=Nat.add_mul _ _ _;have e4:i*k<=n*k:=Nat.mul_le_mul_right _ hin;have e5:k<=m*k:=Nat.le_mul_of_pos_left k hm;have e6:k<=n*k:=Nat.le_mul_of_pos_left k (by omega);have hbw:b<w.heap.size:=block_lt_of_cell (B 0 _ (List.getElem?_eq_getElem (by omega)));have hvw:vb<w.heap.size:=block_lt_of_cell (I 0 _ (List.getElem?_eq_getElem (by omega)));have J:(n:Int)+(m:Int)-(i:Int)=((n+m-i:Nat):Int):=by omega
  have s:i+(n+m-i)=n+m:=by omega
  have K:(cs.take (i*k)).length=i*k:=by rw[List.length_take,H];omega
  have hold:(Builtin.firstCells i0.size i (.slice (some ⟨b,off,none⟩) i c)).run P w.drew=.ok (cs.take (i*k)).toArray w.drew :=
    run_firstCells_some w.drew i0.size i ⟨b,off,none⟩ i c (cs.take (i*k)) (by rw[K,O]) (λj v d=>by
      rw[Addr.add_lit];rw[List.getElem?_take] at d;split at d
      · exact B j v d
      · cases d)
  have u:∀l,(Builtin.append_ #[(ρ.t 24),(ρ.t 3)] l #[.slice (some ⟨b,off,none⟩) i c,.int .i64 ((n:Int)+(m:Int)-(i:Int))]).run P w =
      .ok (.slice (some ⟨w.heap.size,0,none⟩) (n+m) (grownCap w (n+m) c (ρ.t 9))) (w.drew.alloc (.cells ((cs.take (i*k)).toArray++Builtin.zeroCells z.cells (n+m-i)++Builtin.zeroCells z.cells (grownCap w (n+m) c (ρ.t 9)-(n+m))) (ρ.t 9))):=λl=>by
    have h:=Lib.run_append_grow_zeros w (ρ.t 24) (ρ.t 3) l (ρ.t 9) i0 z .i64 .i64 L.t24 L.t3 r R (some ⟨b,off,none⟩) i c (cs.take (i*k)) hold (n+m-i) (by omega) (by omega) (by omega) (by omega)
      (by have:(n+m-i)*i0.bytes<=(n+m)*i0.bytes:=Nat.mul_le_mul_right _ (by omega)
          omega) (by rw[s];exact growslice_fits A F)
    rw[s] at h;rw[J];exact h
  obtain ⟨G,Q⟩:∃G,G=grownCap w (n+m) c (ρ.t 9):=⟨_,rfl⟩;obtain⟨a,o⟩:∃a:Array Value,a=(cs.take (i*k)).toArray++Builtin.zeroCells z.cells (n+m-i)++Builtin.zeroCells z.cells (G-(n+m)):=⟨_,rfl⟩;rw[<- Q] at u ⊢;rw[<- o] at u ⊢;have hRl:(n+m)*k<=a.size:=by
    rw[o];have e7:i*k+(n+m-i)*k=(n+m)*k:=by rw[<- Nat.add_mul,s]
    simp only[Array.size_append,List.size_toArray,K,size_zeroCells,S];omega
  obtain ⟨q,g⟩:∃q,q=w.drew.alloc (.cells a (ρ.t 9)):=⟨_,rfl⟩;rw[<- g] at u;have hN:∀j,j<(n+m)*k->(q.cell? ⟨w.heap.size,j,none⟩).isSome=true:=λj d=>by
    rw[g,World.cell?_alloc_at (w:=w.drew) a _ w.heap.size j rfl,Array.getElem?_eq_getElem (by omega)];rfl
  have M:∀j,q.frozen? ⟨w.heap.size,j,none⟩=false:=λj=>by rw[g];exact World.frozen?_alloc_at (w:=w.drew) a _ w.heap.size j rfl
  have hOb:∀j v,w.cell? ⟨b,j,none⟩=some v->q.cell? ⟨b,j,none⟩=some v:=λj v h=>by rw[g,World.cell?_alloc_past (w:=w.drew) _ b j hbw];exact h
  have hOv:∀j v,w.cell? ⟨vb,j,none⟩=some v->q.cell? ⟨vb,j,none⟩=some v:=λj v h=>by rw[g,World.cell?_alloc_past (w:=w.drew) _ vb j hvw];exact h
  have N:∀(W:World),(∀x,W.cell? x=q.cell? x)->(∀x,W.frozen? x=q.frozen? x)->∀l D,(Builtin.copy_ #[(ρ.t 24),(ρ.t 24)] l #[.slice (some ⟨w.heap.size,i*k,none⟩) (n+m-i) D,.slice (some ⟨vb,voff,none⟩) m vc]).run P W=.ok (goInt (m:Nat)) (W.setCells w.heap.size (i*k) vs):=λW p E l D =>
    yB W _ _ l (ρ.t 9) i0 m w.heap.size (i*k) (n+m-i) D ⟨vb,voff,none⟩ m vc vs L.t24 r (by simp only[Nat.min_def];split<;>omega) (by rw[O];exact T)
      (λj v d=>by rw[Addr.add_lit,p];exact hOv _ v (I j v d))
      (λj d=>by rw[p];exact hN _ (by omega)) (λj d=>by rw[E];exact M _) V
  have hGn:n+m<=G:=by rw[Q];exact grownCap_ge w _ _ _
  have hG63:G<=9223372036854775807:=by
    have:=grownCap_le_maxLen w (n+m) c (ρ.t 9) (by unfold maxLen;omega);rw[<- Q] at this;unfold maxLen at this;omega
  have hGi:¬ (G=i):=by omega
  have hGim:¬ (G=i+m):=by omega
  have hci:¬ (c=i):=by omega
  have hbN:b≠w.heap.size:=by omega
  have hdl:(cs.drop (i*k)).length=(n-i)*k:=by rw[List.length_drop,H,Nat.sub_mul]
  have y:∀(W:World),(∀x,W.cell? x=(q.setCells w.heap.size (i*k) vs).cell? x)->(∀x,W.frozen? x=(q.setCells w.heap.size (i*k) vs).frozen? x)->∀l D sc,(Builtin.copy_ #[(ρ.t 24),(ρ.t 24)] l #[.slice (some ⟨w.heap.size,i*k+m*k,none⟩) (n+m-(i+m)) D,.slice (some ⟨b,off+i*k,none⟩) (n-i) sc]).run P W=.ok (goInt (n-i:Nat)) (W.setCells w.heap.size (i*k+m*k) (cs.drop (i*k))):=λW p E l D sc =>
    yB W _ _ l (ρ.t 9) i0 (n-i) w.heap.size (i*k+m*k) (n+m-(i+m)) D ⟨b,off+i*k,none⟩ (n-i) sc (cs.drop (i*k)) L.t24 r (by simp only[Nat.min_def];split<;>omega) (by rw[O];exact hdl)
      (fun j v d=>by
        rw[Addr.add_lit,p,World.cell?_setCells_out _ _ _ _ _ (λh _=>absurd h hbN),Nat.add_assoc];exact hOb _ v (B (i*k+j) v (by rwa[List.getElem?_drop] at d)))
      (λj d=>by rw[p];exact isSome_setCells _ _ _ _ (λt ht=>hN _ (by omega)) _ (hN _ (by omega)))
      (λj d=>by rw[E,World.frozen?_setCells];exact M _) (λv hv=>U v (List.mem_of_mem_drop hv))
  subst g;have hE1:∀x,((w.alloc (.cells a (ρ.t 9))).drew).cell? x=(w.drew.alloc (.cells a (ρ.t 9))).cell? x:=λx=>rfl;have hE2:∀x,((w.alloc (.cells a (ρ.t 9))).drew).frozen? x=(w.drew.alloc (.cells a (ρ.t 9))).frozen? x:=λx=>rfl;have hF1:∀x,(((w.alloc (.cells a (ρ.t 9))).drew.setCells w.heap.size (i*k) vs).drew).cell? x=((w.drew.alloc (.cells a (ρ.t 9))).setCells w.heap.size (i*k) vs).cell? x:=λx=>rfl;have hF2:∀x,(((w.alloc (.cells a (ρ.t 9))).drew.setCells w.heap.size (i*k) vs).drew).frozen? x=((w.drew.alloc (.cells a (ρ.t 9))).setCells w.heap.size (i*k) vs).frozen? x:=λx=>rfl;have hw1:IntKind.i64.wrap ((i:Int)+(m:Int))=(i:Int)+(m:Int):=by rw[IntKind.wrap_i64];omega
  have hb1:(0:Int)<=(i:Int)+(m:Int):=by omega
  have htn:((i:Int)+(m:Int)).toNat=i+m:=by omega
  have hb3:(i:Int)<=(n:Int):=by omega
  clear J s hold o Q hRl e1 e2 e3 e4 e5 e6
  go_enter FI,Body2.n22_ntmps ρ
  go_wp2_with (first
    | (at_builtin;refine Lib.wpList_append_run _ rfl _ _ _ _ rfl _ _ rfl rfl _ _ (u _) ?_)
    | (at_builtin;refine wpList_copy_runI _ rfl _ _ (ρ.t 24) (ρ.t 24) rfl _ _ rfl rfl (N _ hE1 hE2 _ _) ?_)
    | (at_builtin;refine wpList_copy_runI _ rfl _ _ (ρ.t 24) (ρ.t 24) rfl _ _ rfl rfl (y _ (λ_=>rfl) (λ_=>rfl) _ _ _) ?_))
  go_region_law_o (refine step_copy_runI rfl _ _ (ρ.t 24) (ρ.t 24) rfl (.slice (some ⟨w.heap.size,i*k+m*k,none⟩) (n+m-(i+m)) (G-(i+m))) (.slice (some ⟨b,off+i*k,none⟩) (n-i) (c-i)) (by simp[Act.eval,Act.put,Nat.add_mul]) (by simp[Act.eval,Act.put]) (y _ hF1 hF2 (ρ.t 3) (G-(i+m)) (c-i)) ?_)
  go_wp2
  go_ret
  exact⟨rfl,rfl⟩
end
end Go.Dm
end
