/- Part 28 of the proof of roomMerges_card, set without needless blanks. No condition. -/
import Derived.Test.YtflcjdohmojepaaGreatDoorM26
import Derived.Test.YtflcjdohmojepaaGreatDoorM25
set_option linter.all false
set_option maxRecDepth 100000
set_option maxHeartbeats 16000000
section
namespace Go.Dm
open Go Go.Lib Go.Proofs Go.Shelf
section
variable {bl:Nat}{x:List PV}{es:List (List PV)}
theorem gF{el:TypeId}{fz:Nat × Nat}:∀(vs:List Value) (o:Nat) (w:World) (arr:Array Value),w.heap[bl]?=some (.cells arr el fz) ->
  (∃arr',(w.setCells bl o vs).heap[bl]?=some (.cells arr' el fz)/\arr'.size=arr.size)/\(∀b,b≠bl->(w.setCells bl o vs).heap[b]?=w.heap[b]?)/\(w.setCells bl o vs).heap.size=w.heap.size /\
  (w.setCells bl o vs).os=w.os/\(w.setCells bl o vs).tape=w.tape/\(w.setCells bl o vs).output=w.output/\(w.setCells bl o vs).drawn=w.drawn
 | [],o,w,arr,h=>⟨⟨arr,h,rfl⟩,λ_ _=>rfl,rfl,rfl,rfl,rfl,rfl⟩
 | v::r,o,w,arr,h=>by
  have h1:(w.setCell ⟨bl,o,none⟩ v).heap[bl]?=some (.cells (arr.setIfInBounds o v) el fz):=by rw[jU,if_pos rfl,h];rfl
  obtain⟨⟨arr',a1,a2⟩,a3,a4,a5,a6,a7,a8⟩:=gF r (o+1) _ _ h1;refine⟨⟨arr',a1,by rw[a2];simp⟩,λb hb=>?_,?_,a5,a6,a7,a8⟩
  .show ((w.setCell ⟨bl,o,none⟩ v).setCells bl (o+1) r).heap[b]? = _;rw[a3 b hb,jU,if_neg hb]
  .show ((w.setCell ⟨bl,o,none⟩ v).setCells bl (o+1) r).heap.size=_;rw[a4];simp[World.setCell]
theorem xQ{w W:World}{off p q:Nat}{ca vs cb:List Value}(hp:ca.length=p)(hq:vs.length=q)
 (hW:W=(w.setCells bl (off+(p+q)) cb).setCells bl (off+p) vs∨W=(w.setCells bl (off+p) vs).setCells bl (off+(p+q)) cb)
 (h0:∀j v,ca[j]?=some v->w.cell? ⟨bl,off+j,none⟩=some v)(hs:∀j,j<p+q+cb.length->(w.cell? ⟨bl,off+j,none⟩).isSome=true):
  ∀(j:Nat) (v:Value),(ca++vs++cb)[j]?=some v->W.cell? ⟨bl,off+j,none⟩=some v:=by
 intro j v hj;have i1:∀(u:World),(∀j,j<p+q+cb.length->(u.cell? ⟨bl,off+j,none⟩).isSome=true)->∀t,t<cb.length->(u.setCells bl (off+(p+q)) cb).cell? ⟨bl,off+(p+q+t),none⟩=cb[t]? := λu hu t ht=>by
  have:=World.cell?_setCells_in bl cb (off+(p+q)) u (λs hs'=>by rw[Nat.add_assoc];exact hu _ (by omega)) t ht
  rw[show off+(p+q+t)=off+(p+q)+t by omega,this,List.getElem?_eq_getElem ht]
 have i2:∀(u:World),(∀j,j<p+q+cb.length->(u.cell? ⟨bl,off+j,none⟩).isSome=true)->∀t,t<vs.length->(u.setCells bl (off+p) vs).cell? ⟨bl,off+(p+t),none⟩=vs[t]? := λu hu t ht=>by
  have:=World.cell?_setCells_in bl vs (off+p) u (λs hs'=>by rw[Nat.add_assoc];exact hu _ (by omega)) t ht
  rw[show off+(p+t)=off+p+t by omega,this,List.getElem?_eq_getElem ht]
 have o1:∀(u:World) t,t<p+q->(u.setCells bl (off+(p+q)) cb).cell? ⟨bl,off+t,none⟩=u.cell? ⟨bl,off+t,none⟩:=λu t ht=>World.cell?_setCells_out bl _ _ _ _ λ_ _=>by simp only;omega
 have o2:∀(u:World) t,(t<p∨p+q<=t)->(u.setCells bl (off+p) vs).cell? ⟨bl,off+t,none⟩=u.cell? ⟨bl,off+t,none⟩:=λu t ht=>World.cell?_setCells_out bl _ _ _ _ λ_ _=>by simp only;omega
 have s1:∀j,j<p+q+cb.length->((w.setCells bl (off+(p+q)) cb).cell? ⟨bl,off+j,none⟩).isSome=true:=λt ht=>Go.Proofs.isSome_setCells bl _ _ _ (λs hs'=>by rw[Nat.add_assoc];exact hs _ (by omega)) _ (hs t ht)
 have s2:∀j,j<p+q+cb.length->((w.setCells bl (off+p) vs).cell? ⟨bl,off+j,none⟩).isSome=true:=λt ht=>Go.Proofs.isSome_setCells bl _ _ _ (λs hs'=>by rw[Nat.add_assoc];exact hs _ (by omega)) _ (hs t ht)
 rcases Nat.lt_or_ge j p with h1|h1
 .rw[List.getElem?_append_left (by simp;omega),List.getElem?_append_left (by omega)] at hj;rcases hW with rfl|rfl
  .rw[o2 _ _ (.inl h1),o1 _ _ (by omega)];exact h0 j v hj
  .rw[o1 _ _ (by omega),o2 _ _ (.inl h1)];exact h0 j v hj
 .rcases Nat.lt_or_ge j (p+q) with h2|h2
  .rw[List.getElem?_append_left (by simp;omega),List.getElem?_append_right (by omega)] at hj;obtain⟨t,rfl⟩:∃t,j=p+t:=⟨j-p,by omega⟩
   rw[hp,Nat.add_sub_cancel_left] at hj;rcases hW with rfl|rfl
   .rw[i2 _ s1 t (by omega)];exact hj
   .rw[o1 _ _ (by omega),i2 _ hs t (by omega)];exact hj
  .rw[List.getElem?_append_right (by simp;omega)] at hj;obtain⟨t,rfl⟩:∃t,j=p+q+t:=⟨j-(p+q),by omega⟩
   rw[List.length_append,hp,hq,Nat.add_sub_cancel_left] at hj;have ht:=aK hj;rcases hW with rfl|rfl
   .rw[o2 _ _ (.inr (by omega)),i1 _ hs t ht];exact hj
   .rw[i1 _ s2 t ht];exact hj
def fZ(i:Nat)(x:List PV)(es:List (List PV)):List (List PV):=es.take i++x::es.drop i
theorem BP{i:Nat}(h:i<=es.length):(fZ i x es).length=es.length+1:=by
 simp only[fZ,List.length_append,List.length_take,List.length_cons,List.length_drop];omega
theorem KT(i:Nat)(x:List PV)(es:List (List PV)):(fZ i x es).flatten=(es.take i).flatten++x++(es.drop i).flatten:=by
 simp[fZ,List.flatten_append,List.flatten_cons,List.append_assoc]
theorem zFt: fZ es.length x es=es++[x]:=by
 simp[fZ]
section roads
variable {P:Program}{T:Tab}{ρ:Ren}
variable {k id n vc vb i voff cap:Nat}{X:Ctx}{es:List (List PV)}{x:List PV}{vs:List Value}{g:Nat × Nat}{w:World}{S:Nat->Prop}{v1:Value}
theorem xN(hT:bM P T)(L:InsL P ρ)(hk:(T (ρ.t 9)).size=k)(hk0:0<k)(h24:(T (ρ.t 24)).k=.slice (ρ.t 9))(hi:HInv X){c:Nat}{base:Option Addr}{vb:Addr}
 (hid:X.h[id]?=some (.arr k es false))(hl:es.length=n)(hd:bD X (.c (.own id 0 n)) (.slice base n c))(hnc:n<=c)(hnil:base=none->n=0)
 (hxk:x.length=k)(hvr:bQ X.w X.S x vs)(hvc:∀(j:Nat) (v:Value),vs[j]?=some v->X.w.cell? (vb.add j)=some v)
 (hb:(n+1)*(T (ρ.t 9)).bytes<=140737488355328)(hn2:n+1<=4611686018427387904):
  Calls P (ρ.f 22) #[.slice base n c,.int .i64 n,.slice (some vb) 1 vc] X.w λe w'=>∃v,e=.returned v/\Ret X (λd h'=>d=.c (.own X.h.length 0 (n+1))/\h'=X.h.set id .dead++[.arr k (es++[x]) false]) v w':=by
 have hs0:(T (ρ.t 9)).size≠0:=by omega
 obtain⟨_,i0,z,t1,_⟩:=cC hT (bI hT hs0);have hnl:∀y∈[x],y.length=(T (ρ.t 9)).size:=λy hy=>by rw[List.mem_singleton.1 hy,hk];exact hxk
 have hnr:bQ X.w X.S [x].flatten vs:=by simpa using hvr
 have hsrc:Src P (T (ρ.t 9)).size (ρ.t 24) (.slice (some vb) [x].length vc) [x].length vs X.w:=zLB hT h24 rfl hnr hnl (λh=>by cases h) (λad ha=>by cases ha;exact hvc)
 obtain⟨v,d,X',g1,g2,g3,g4,g5⟩:=nO (K:=λd h'=>d=.c (.own X.h.length 0 (n+1))/\h'=X.h.set id .dead++[.arr k (es++[x]) false]) (ty:=0) hT hi h24 h24 hs0 hd (by rw[hk];exact hid) hnl hnr hsrc (by omega) hb (by simp only[List.length_singleton];omega) ⟨rfl,by rw[hk];rfl⟩
 refine(zMO L i0 t1 base n c vb 1 vc X.w X'.w v (by omega) hnc hnil λty=>g1).mono ?_;rintro e w' ⟨rfl,rfl⟩;exact⟨v,rfl,d,X',rfl,g2,g3,g4,g5⟩
theorem zKs(hi:HInv X){v:Value}(hid:X.h[id]?=some (.arr k es false))(hl:es.length=n)(hg:X.G id=some g)(hn:0<n)(hd:bD X (.c (.own id 0 n)) v):
  ∃cap arr el fz,v=.slice (some ⟨g.1,g.2,none⟩) n cap/\X.w.heap[g.1]?=some (.cells arr el fz)/\n<=cap/\cap<=maxLen/\g.2+cap*k<=arr.size/\tQ k fz g.2 arr.size/\fP X.w X.S k g.1 g.2 es:=by
 obtain⟨_,_,h3⟩:=hd;obtain⟨_,h5⟩:=h3 _ _ _ hid;rw[hg] at h5;obtain⟨cap,o,arr,el,fz,h6,rfl,h7,h8,h9,h10⟩:=h5;rcases hi.blk id _ hid with hq|⟨g',arr',el',fz',q1,q2,q3,q4,q5⟩
 .rw[hg] at hq;cases hq.1
 rw[hg] at q1;cases q1;rw[h6] at q2;cases q2;have ho:o=g.2:=by rcases h7 with h7|h7<;>omega
 subst ho;exact⟨cap,arr,el,fz,rfl,h6,h8,h9,by simpa using h10,q4,q5⟩
theorem HM{bl off:Nat}(hL:fP w S k bl off es)(hi:i<=es.length):
  ∃ca cb:List Value,bQ w S (es.take i).flatten ca/\bQ w S (es.drop i).flatten cb/\ca.length=i*k/\(ca++cb).length=es.length*k/\∀(j:Nat) (v:Value),(ca++cb)[j]?=some v->w.cell? ⟨bl,off+j,none⟩=some v:=by
 obtain⟨ca,a1,a2,a3⟩:=(hL.take i).vals;obtain⟨cb,b1,b2,b3⟩:=(hL.drop i).vals;have e:(es.take i).length=i:=by rw[List.length_take];omega
 have e2:(es.drop i).length=es.length-i:=List.length_drop;rw[e] at a2;rw[e2] at b2;have e3:i*k+(es.length-i)*k=es.length*k:=by rw[<- Nat.add_mul];congr 1;omega
 refine⟨ca,cb,a1,b1,a2,by rw[List.length_append,a2,b2,e3],λj v hj=>?_⟩
 rcases Nat.lt_or_ge j ca.length with h|h
 .rw[List.getElem?_append_left h] at hj;exact a3 j v hj
 .rw[List.getElem?_append_right h] at hj;have:=b3 _ v hj;rw[<- this];congr 2;omega
theorem QS{ca cb:List Value}(ha:bQ w S (es.take i).flatten ca)(hv:bQ w S x vs)(hb:bQ w S (es.drop i).flatten cb):bQ w S (fZ i x es).flatten (ca++vs++cb):=by
 rw[KT];exact(ha.append hv).append hb
theorem ET(hT:bM P T)(L:InsL P ρ)(hk:(T (ρ.t 9)).size=k)(hk1:1<k)(hi:HInv X){arr:Array Value}{el:TypeId}{fz:Nat × Nat}
 (hid:X.h[id]?=some (.arr k es false))(hl:es.length=n)(hg:X.G id=some g)(hin:i<n)(hv1:v1=.slice (some ⟨g.1,g.2,none⟩) n cap)(hbl:X.w.heap[g.1]?=some (.cells arr el fz))(hcm:cap<=maxLen)(hsz:g.2+cap*k<=arr.size)(hfr:tQ k fz g.2 arr.size)(hL:fP X.w X.S k g.1 g.2 es)(hroom:n+1<=cap)
 (hxk:x.length=k)(hvr:bQ X.w X.S x vs)(hvc:∀(j:Nat) (v:Value),vs[j]?=some v->X.w.cell? ⟨vb,voff+j,none⟩=some v)(hvb:vb≠g.1)
 {tA:TypeId}{kA:Nat}(hsa:X.w.shape? vb=some (tA,kA))(hfa:X.w.frozen? ⟨vb,voff,none⟩=false)(hfe:X.w.frozen? ⟨vb,kA,none⟩=false):
  Calls P (ρ.f 22) #[v1,.int .i64 i,.slice (some ⟨vb,voff,none⟩) 1 vc] X.w λe w'=>∃v,e=.returned v/\Ret X (λd h'=>d=.c (.own X.h.length 0 (n+1))/\h'=X.h.set id .dead++[.arr k (fZ i x es) false]) v w':=by
 have hs0:(T (ρ.t 9)).size≠0:=by omega
 obtain⟨_,i0,z,t1,t2,_⟩:=cC hT (bI hT hs0);have hlt:=aK hid;obtain⟨ca,cb,a1,a2,a3,a4,a5⟩:=HM (i:=i) hL (by omega);have hvl:vs.length=k:=by rw[<- hvr.length,hxk]
 rw[hl] at a4;have a6:cb.length+i*k=n*k:=by rw[<- a4,List.length_append,a3];omega
 have m1:(n+1)*k<=cap*k:=Nat.mul_le_mul_right _ hroom;have m2:(n+1)*k=n*k+k:=by rw[Nat.add_mul,Nat.one_mul]
 have m3:(i+1)*k=i*k+k:=by rw[Nat.add_mul,Nat.one_mul]
 have hcell:∀j,j<(n+1)*k->(X.w.cell? ⟨g.1,g.2+j,none⟩).isSome=true:=λj hj=>by
  simp only[World.cell?,hbl,Option.isSome_none,Bool.false_eq_true,if_false];rw[Array.getElem?_eq_getElem (by omega)];rfl
 have hfz:fz.1=fz.2:=by rcases hfr.2 with h|h;omega;exact h
 subst hv1;refine(zFv L i0 t1 k (by rw[t2,hk]) (by omega) g.1 g.2 n cap i vb voff 1 vc (ca++cb) vs X.w hin (by omega) hroom (by unfold maxLen at hcm;omega) hvb a4 (by omega) a5 hcell (λj _=>by simp only[World.frozen?,hbl];simp;omega) hvc
  (λv hv=>by rcases List.mem_append.1 hv with hv|hv;exact a1.oneCell v hv;exact a2.oneCell v hv) hvr.oneCell tA el kA arr.size hsa (by simp[World.shape?,hbl]) (by omega) hfa hfe).mono ?_
 rintro e w' ⟨rfl,hw⟩;rw[List.drop_left' a3,m3] at hw;obtain⟨⟨arr1,b1,b2⟩,b3,b4,b5,b6,b7,b8⟩:=gF cb (g.2+(i*k+k)) X.w.drew arr hbl;obtain⟨⟨arr2,c1,c2⟩,c3,c4,c5,c6,c7,c8⟩:=gF vs (g.2+i*k) _ arr1 b1;rw[<- hw] at c1 c3 c4 c5 c6 c7 c8;have hto:Touched X.w w' g.1:=⟨c5.trans b5,c6.trans b6,⟨c7.trans b7,by rw[c8,b8];exact Nat.le_succ _⟩,c4.trans b4,λb hb=>(c3 b hb).trans (b3 b hb),.inl ⟨arr,el,fz,arr2,el,fz,hbl,c1,by rw[c2,b2]⟩⟩
 have hlen:=BP (x:=x) (es:=es) (i:=i) (by omega);have hsb:cM (.arr k es false) (.arr k (fZ i x es) false):=⟨rfl,by omega⟩
 have hst:=Step.put hi hid rfl rfl hg hto hsb rfl;have hik:HInv (X.put w' id (.arr k (fZ i x es) false)):=HInv.put hi hid rfl rfl hg hto hsb rfl (by
  refine .inr ⟨g,arr2,el,fz,hg,c1,by rw[hlen,c2,b2,hl];omega,by rw[c2,b2];exact hfr,fP.of_vals (λy hy=>?_) ((QS a1 hvr a2).kept hst.kept) ?_⟩
  .simp only[fZ,List.mem_append,List.mem_cons] at hy;have hek:∀y∈es,y.length=k:=λy hy=>by
    obtain⟨j,hj⟩:=List.mem_iff_getElem?.1 hy;exact(hL.at_ hj).1
   rcases hy with hy|rfl|hy
   .exact hek y (List.mem_of_mem_take hy)
   .exact hxk
   .exact hek y (List.mem_of_mem_drop hy)
  .exact xQ (w:=X.w.drew) a3 hvl (.inl hw) (λj v hj=>a5 j v (by rw[List.getElem?_append_left (aK hj)];exact hj)) (λj hj=>hcell j (by omega)))
 have hid2:(X.put w' id (.arr k (fZ i x es) false)).h[id]?=some (.arr k (fZ i x es) false):=by
  simp only[Ctx.put];rw[List.getElem?_set];simp[hlt]
 obtain ⟨k3,k4⟩:=rebase (off:=0) hik hid2 hg (by omega);have hheap:((X.put w' id (.arr k (fZ i x es) false)).rebase id (g.1,g.2+0*k) k ((fZ i x es).drop 0)).h=X.h.set id .dead++[.arr k (fZ i x es) false]:=by
  simp only[Ctx.rebase,Ctx.put,List.set_set,List.drop_zero]
 refine⟨_,rfl,_,_,rfl,k4,hst.trans hik k3,?_,rfl,hheap⟩;refine tI (x:=.own X.h.length 0 (n+1)) ⟨by rw[hheap];simp,rfl,λk' es' ro' hh=>?_⟩
 rw[hheap] at hh;rw[show X.h.length=(X.h.set id .dead).length by simp,List.getElem?_concat_length] at hh
 simp only[Option.some.injEq,DB.arr.injEq] at hh;obtain⟨rfl,rfl,rfl⟩:=hh;refine⟨by omega,?_⟩
 simp only[Ctx.rebase,Ctx.put,List.length_set,if_true];exact⟨cap,g.2,arr2,el,fz,c1,rfl,.inr (by simp),hroom,hcm,by rw[c2,b2];simpa using hsz⟩
theorem zMD{w':World}{o:Obj}(h1:w'.os=w.os)(h2:w'.tape=w.tape)(h3:tM w w')(hs:w'.heap.size=w.heap.size+1)(ho:∀b,b<w.heap.size->w'.heap[b]?=w.heap[b]?)(hn:w'.heap[w.heap.size]?=some o):Grew w w' o:=by
 refine⟨Array.ext_getElem? λb=>?_,h1,h2,h3⟩;rw[Array.getElem?_push];split
 .rename_i h;subst h;exact hn
 .rename_i h;rcases Nat.lt_or_ge b w.heap.size with hb|hb
  .exact ho b hb
  .rw[Array.getElem?_eq_none (by omega),Array.getElem?_eq_none hb]
set_option maxHeartbeats 1000000 in
theorem KW(hT:bM P T)(L:InsL P ρ)(hk:(T (ρ.t 9)).size=k)(hk1:1<k)(hi:HInv X)
 (hid:X.h[id]?=some (.arr k es false))(hl:es.length=n)(hin:i<n)(hv1:v1=.slice (some ⟨g.1,g.2,none⟩) n cap)(hL:fP X.w X.S k g.1 g.2 es)(hnc:n<=cap)(hroom:cap<n+1)
 (hxk:x.length=k)(hvr:bQ X.w X.S x vs)(hvc:∀(j:Nat) (v:Value),vs[j]?=some v->X.w.cell? ⟨vb,voff+j,none⟩=some v)
 (hb:(n+1)*(T (ρ.t 9)).bytes<=140737488355328)(hn2:n+1<=4611686018427387904):
  Calls P (ρ.f 22) #[v1,.int .i64 i,.slice (some ⟨vb,voff,none⟩) 1 vc] X.w λe w'=>∃v,e=.returned v/\Ret X (λd h'=>d=.c (.own X.h.length 0 (n+1))/\h'=X.h.set id .dead++[.arr k (fZ i x es) false]) v w':=by
 have hs0:(T (ρ.t 9)).size≠0:=by omega
 obtain ⟨_,i0,z,t1,t2,t3,t4,t5,t6,t7,t8⟩:=cC hT (bI hT hs0);have hz:z.cells.size=k:=by
  have:=congrArg List.length t5;simp only[List.length_map] at this;rw[<- hk,t6,this];simp
 obtain⟨ca,cb,a1,a2,a3,a4,a5⟩:=HM (i:=i) hL (by omega);have hvl:vs.length=k:=by rw[<- hvr.length,hxk]
 rw[hl] at a4;have a6:cb.length+i*k=n*k:=by rw[<- a4,List.length_append,a3];omega
 have m2:(n+1)*k=n*k+k:=by rw[Nat.add_mul,Nat.one_mul]
 subst hv1;refine(zJy L i0 t1 z t4 k (by rw[t2,hk]) (by omega) hz g.1 g.2 n cap i vb voff 1 vc (ca++cb) vs X.w hin (by omega) hnc hroom (by rw[t3];exact hb) hn2 a4 (by omega) a5 hvc
  (λv hv=>by rcases List.mem_append.1 hv with hv|hv;exact a1.oneCell v hv;exact a2.oneCell v hv) hvr.oneCell).mono ?_
 rintro e w' ⟨rfl,hw⟩;rw[List.drop_left' a3,List.take_left' a3,Nat.one_mul] at hw;have hG1:=grownCap_ge X.w (n+1) cap (ρ.t 9);have hG2:=grownCap_le_maxLen X.w (n+1) cap (ρ.t 9) (by unfold maxLen;omega);generalize grownCap X.w (n+1) cap (ρ.t 9)=G at hG1 hG2 hw ⊢;have hR:(ca.toArray++Builtin.zeroCells z.cells (n+1-i)++Builtin.zeroCells z.cells (G-(n+1))).size=G*k:=by
  simp only[Array.size_append,List.size_toArray,a3,size_zeroCells,hz,<- Nat.add_mul]
  congr 1;omega
 have hR2:∀(j:Nat) (v:Value),ca[j]?=some v->(ca.toArray++Builtin.zeroCells z.cells (n+1-i)++Builtin.zeroCells z.cells (G-(n+1)))[j]?=some v:=λj v hj=>by
  have:=aK hj;rw[Array.getElem?_append_left (by rw[Array.size_append,List.size_toArray];omega),Array.getElem?_append_left (by rw[List.size_toArray];omega)];simpa using hj
 generalize ca.toArray++Builtin.zeroCells z.cells (n+1-i)++Builtin.zeroCells z.cells (G-(n+1))=ROW at hw hR hR2;have mG:(n+1)*k<=G*k:=Nat.mul_le_mul_right _ hG1;have hu:((X.w.alloc (.cells ROW (ρ.t 9))).drew.drew).heap[X.w.heap.size]?=some (.cells ROW (ρ.t 9) (0,0)):=(Grew.alloc X.w (.cells ROW (ρ.t 9))).new;have hw2:w'=((X.w.alloc (.cells ROW (ρ.t 9))).drew.drew.setCells X.w.heap.size (0+i*k) vs).setCells X.w.heap.size (0+(i*k+k)) cb:=by
  rw[hw,Go.Proofs.drew_setCells,Nat.zero_add,Nat.zero_add]
 have hu2:∀b,b<X.w.heap.size->((X.w.alloc (.cells ROW (ρ.t 9))).drew.drew).heap[b]?=X.w.heap[b]? := λb hb=>(Grew.alloc X.w (.cells ROW (ρ.t 9))).old hb;have hu3:((X.w.alloc (.cells ROW (ρ.t 9))).drew.drew).heap.size=X.w.heap.size+1:=(Grew.alloc X.w (.cells ROW (ρ.t 9))).size;have hu4:((X.w.alloc (.cells ROW (ρ.t 9))).drew.drew).os=X.w.os:=rfl;have hu5:((X.w.alloc (.cells ROW (ρ.t 9))).drew.drew).tape=X.w.tape:=rfl;have hu6:tM X.w ((X.w.alloc (.cells ROW (ρ.t 9))).drew.drew):=⟨rfl,Nat.le_add_right X.w.drawn 2⟩;generalize (X.w.alloc (.cells ROW (ρ.t 9))).drew.drew=u at hu hu2 hu3 hu4 hu5 hu6 hw2;clear hw;obtain⟨⟨arr1,b1,b2⟩,b3,b4,b5,b6,b7,b8⟩:=gF vs (0+i*k) u ROW hu;obtain⟨⟨arr2,c1,c2⟩,c3,c4,c5,c6,c7,c8⟩:=gF cb (0+(i*k+k)) _ arr1 b1;rw[<- hw2] at c1 c3 c4 c5 c6 c7 c8;have hgw:Grew X.w w' (.cells arr2 (ρ.t 9) (0,0)):=zMD ((c5.trans b5).trans hu4) ((c6.trans b6).trans hu5) ⟨(c7.trans b7).trans hu6.1,by rw[c8,b8];exact hu6.2⟩ ((c4.trans b4).trans hu3)
  (λb hb=>((c3 b (by omega)).trans (b3 b (by omega))).trans (hu2 b hb)) c1
 have hcell:∀j,j<(n+1)*k->(u.cell? ⟨X.w.heap.size,0+j,none⟩).isSome=true:=λj hj=>by
  simp only[World.cell?,hu,Option.isSome_none,Bool.false_eq_true,if_false];rw[Array.getElem?_eq_getElem (by omega)];rfl
 have hopen:=xQ (w:=u) (W:=w') (bl:=X.w.heap.size) (off:=0) a3 hvl (.inr hw2) (λj v hj=>by
  simp only[World.cell?,hu,Option.isSome_none,Bool.false_eq_true,if_false,Nat.zero_add];exact hR2 j v hj) (λj hj=>hcell j (by omega))
 have hlen:=BP (x:=x) (es:=es) (i:=i) (by omega);have hik:=hi.kill id;have hsk:=Step.kill hi id;have hkl:(X.kill id).h.length=X.h.length:=by simp[Ctx.kill]
 have hgw':Grew (X.kill id).w w' (.cells arr2 (ρ.t 9) (0,0)):=hgw;obtain⟨k1,k2⟩:=sW (X:=X.kill id) (k:=k) (es:=fZ i x es) (vs:=ca++vs++cb) hik hgw' (λy hy=>by
   simp only[fZ,List.mem_append,List.mem_cons] at hy;have hek:∀y∈es,y.length=k:=λy hy=>by
    obtain⟨j,hj⟩:=List.mem_iff_getElem?.1 hy;exact(hL.at_ hj).1
   rcases hy with hy|rfl|hy
   .exact hek y (List.mem_of_mem_take hy)
   .exact hxk
   .exact hek y (List.mem_of_mem_drop hy)) (QS a1 hvr a2) (λj v hj=>by
  have:=hopen j v hj;simp only[World.cell?,c1,Option.isSome_none,Bool.false_eq_true,if_false,Nat.zero_add] at this;exact this) (by rw[hlen,c2,b2,hR,hl];exact mG) (tQ.zero _ _ _)
 have ho:=tC (X:=X.kill id) (k:=k) (n:=n+1) (cap:=G) (es:=fZ i x es) hgw' (by omega) hG1 hG2 (by rw[c2,b2,hR];exact Nat.le_refl _);rw[hkl] at ho;exact⟨_,rfl,_,_,rfl,k2,hsk.trans hik k1,ho,rfl,rfl⟩
end roads
theorem uA{P:Program}{T:Tab}(hT:bM P T){ρ:Ren}(L:InsL P ρ)(hen:∀(vals:List Value) (w:World),(callFunc (ρ.f 22) vals.toArray).run P w=.ok (.enter (ρ.f 22) vals.toArray) w)
  {k:Nat}(hk:(T (ρ.t 9)).size=k)(hk1:1<k)(h24:(T (ρ.t 24)).k=.slice (ρ.t 9))
  {h:aD}{id jd n i:Nat}{es:List (List PV)}{x:List PV}(hid:h[id]?=some (.arr k es false))(hjd:h[jd]?=some (.arr k [x] false))(hne:id≠jd)(hn:n<=es.length)(hin:i<=n)
  (hb:(n+1)*(T (ρ.t 9)).bytes<=140737488355328)(hn2:n+1<=4611686018427387904):
  aA P (ρ.f 22) [.c (.own id 0 n),.c (.p (.i .i64 i)),.c (.own jd 0 1)] h λd h'=>d=.c (.own (h.length+1) 0 (n+1))/\h'=h.set id .dead++[.dead,.arr k (fZ i x (es.take n)) false]:=by
 intro X vals hh hi gd hr;subst hh;obtain⟨v1,v3,rfl,hv1,hv3⟩:∃v1 v3,vals=[v1,.int .i64 i,v3]/\bD X (.c (.own id 0 n)) v1/\bD X (.c (.own jd 0 1)) v3:=by
  match vals,hr with
  | [v1,v2,v3],hr =>
   obtain⟨h1,h2,h3,_⟩:=hr;have h2:v2=.int .i64 i:=h2;exact⟨v1,v3,by rw[h2],h1,h3⟩
  | [],hr=>exact hr.elim
  | [_],hr=>exact hr.2.elim
  | [_,_],hr=>exact hr.2.2.elim
  | _::_::_::_::_,hr=>exact hr.2.2.2.elim
 refine .inl ⟨hen _ _,?_⟩;have hs0:(T (ρ.t 9)).size≠0:=by omega
 have hkn:=bI hT hs0;obtain⟨_,i0,z,t1,t2,t3,t4,t5,t6,t7,t8⟩:=cC hT hkn;have hk0:i0.size=k:=by rw[t2,hk]
 have hz:z.cells.size=k:=by
  have:=congrArg List.length t5;simp only[List.length_map] at this;rw[<- hk,t6,this];simp
 obtain⟨_,_,hv3⟩:=hv3;obtain⟨_,hv3⟩:=hv3 _ _ _ hjd;rcases hi.blk jd _ hjd with hq|⟨gj,arrj,elj,fzj,hGj,hbj,hsj,hfj,hLj⟩
 .cases hq.2
 rw[hGj] at hv3;obtain⟨vc,oj,_,_,_,hbj',rfl,hoj,hvc,_,_⟩:=hv3;rw[hbj] at hbj';cases hbj';have hoj:oj=gj.2:=by rcases hoj with hoj|hoj<;>omega
 subst hoj;have hxk:x.length=k:=(hLj.at_ (j:=0) rfl).1;have hnl:∀y∈[x],y.length=(T (ρ.t 9)).size:=λy hy=>by rw[List.mem_singleton.1 hy,hk];exact hxk
 obtain⟨vs,hvr,hvl,hvc2⟩:=hLj.vals;have hfx:[x].flatten=x:=by simp
 rw[hfx] at hvr;have hvl:vs.length=1*k:=hvl;have hfj2:fzj.1=fzj.2:=by rcases hfj.2 with h|h;omega;exact h
 have hxaF:∀o,X.w.frozen? ⟨gj.1,o,none⟩=false:=λo=>by
  simp only[World.frozen?,hbj];simp;omega
 have hvx:∀(j:Nat) (v:Value),vs[j]?=some v->X.w.cell? ((⟨gj.1,gj.2,none⟩:Addr).add j)=some v:=λj v hj=>by rw[Addr.add_lit];exact hvc2 j v hj
 have hkid:=Step.kill hi id;have hlt:=aK hid;have conv:∀(X1:Ctx) (es1:List (List PV)),HInv X1->Step X X1->X1.h=X.h.set id .dead++[.arr k es1 false]->∀v w',Ret X1 (λd h'=>d=.c (.own X1.h.length 0 (n+1))/\h'=X1.h.set X.h.length .dead++[.arr k (fZ i x es1) false]) v w' ->
   Ret X (λd h'=>d=.c (.own (X.h.length+1) 0 (n+1))/\h'=X.h.set id .dead++[.dead,.arr k (fZ i x es1) false]) v w':=λX1 es1 h1 h2 h3 v w' ⟨d,X',r1,r2,r3,r4,r5,r6⟩=>by
  refine⟨d,X',r1,r2,h2.trans h1 r3,r4,?_,?_⟩
  .rw[r5,h3];simp
  .rw[r6,h3,show X.h.length=(X.h.set id .dead).length by simp,List.set_append_right _ _ (Nat.le_refl _),Nat.sub_self,List.set_cons_zero,List.append_assoc];rfl
 cases hg:X.G id with
 | none =>
  have hv1':=hv1;obtain⟨_,_,h3⟩:=hv1;obtain⟨h4,h5⟩:=h3 _ _ _ hid;rw[hg] at h5;simp only at h5;subst h5;have he:es=[]:=by
   rcases hi.blk id _ hid with hq|⟨g',_,_,_,hq,_⟩
   .exact hq.2
   .rw[hg] at hq;cases hq
  subst he;have hn0:n=0:=by simpa using hn
  subst hn0;have hi0:i=0:=by omega
  subst hi0;have hik:=hi.kill id;obtain⟨u1,u2⟩:=virt hik k;have hkl:(X.kill id).h.length=X.h.length:=by simp[Ctx.kill]
  have hh:((X.kill id).virt k).h=X.h.set id .dead++[.arr k [] false]:=rfl
  have hst:=hkid.trans hik u1;have hd1:bD ((X.kill id).virt k) (.c (.own X.h.length 0 0)) (.slice none 0 0):=by
   have:=iQ (X:=X.kill id) (k:=k) (v:=.slice none 0 0) (by simp[cA,cZ]);rw[hkl] at this;exact this
  have hi1:((X.kill id).virt k).h[X.h.length]?=some (.arr k [] false):=by
   rw[hh,show X.h.length=(X.h.set id .dead).length by simp,List.getElem?_concat_length]
  refine(xN hT L hk (by omega) h24 u2 (vc:=vc) (vb:=⟨gj.1,gj.2,none⟩) (x:=x) (vs:=vs) hi1 rfl hd1 (Nat.le_refl _) (λ_=>rfl) hxk (hvr.kept hst.kept) hvx hb hn2).mono ?_;rintro e w' ⟨v,rfl,hv⟩;exact⟨v,rfl,conv _ [] u2 hst hh v w' (hv.mono λd h ⟨q1,q2⟩=>⟨q1,q2⟩)⟩
 | some g =>
  obtain⟨u1,u2⟩:=YJ (off:=0) (len:=n) hi hid hg (by omega);rw[List.drop_zero,Nat.zero_mul,Nat.add_zero] at u1 u2;have hh:(X.rebase id (g.1,g.2) k (es.take n)).h=X.h.set id .dead++[.arr k (es.take n) false]:=rfl
  have hi1:(X.rebase id (g.1,g.2) k (es.take n)).h[X.h.length]?=some (.arr k (es.take n) false):=by
   rw[hh,show X.h.length=(X.h.set id .dead).length by simp,List.getElem?_concat_length]
  have hg1:(X.rebase id (g.1,g.2) k (es.take n)).G X.h.length=some (g.1,g.2):=by simp[Ctx.rebase]
  have hl1:(es.take n).length=n:=by rw[List.length_take];omega
  obtain ⟨_,hone,h3⟩:=hv1;obtain⟨h4,h5⟩:=h3 _ _ _ hid;rw[hg] at h5;obtain⟨cap,o,arr,el,fz,h6,rfl,h7,h8,h9,h10⟩:=h5;have hd1:bD (X.rebase id (g.1,g.2) k (es.take n)) (.c (.own X.h.length 0 n)) (.slice (some ⟨g.1,o,none⟩) n cap):=by
   refine tI (x:=.own X.h.length 0 n) ⟨by rw[hh];simp,rfl,λk' es' ro' hq=>?_⟩
   rw[hi1] at hq;simp only[Option.some.injEq,DB.arr.injEq] at hq;obtain⟨rfl,rfl,rfl⟩:=hq;refine⟨by omega,?_⟩
   rw[hg1];exact⟨cap,o,arr,el,fz,h6,rfl,by simpa using h7,h8,h9,by simpa using h10⟩
  by_cases hie:i=n
  .subst hie;refine(xN hT L hk (by omega) h24 u2 (vc:=vc) (vb:=⟨gj.1,gj.2,none⟩) (x:=x) (vs:=vs) hi1 hl1 hd1 h8 (λh=>by cases h) hxk (hvr.kept u1.kept) hvx hb hn2).mono ?_
   rintro e w' ⟨v,rfl,hv⟩;have he:fZ i x (es.take i)=es.take i++[x]:=by
    have:=zFt (x:=x) (es:=es.take i);rw[hl1] at this;exact this
   refine⟨v,rfl,conv _ (es.take i) u2 u1 hh v w' (hv.mono λd h ⟨q1,q2⟩=>⟨q1,by rw[q2,he]⟩)⟩
  .have hlt2:i<n:=by omega
   obtain⟨cap',arr',el',fz',p1,p2,p3,p4,p5,p6,p7⟩:=zKs u2 hi1 hl1 hg1 (by omega) hd1;have hvb:gj.1≠g.1:=λe=>hne (hi.inj id _ jd _ g gj hid rfl rfl hjd rfl hg hGj e.symm);by_cases hroom:n+1<=cap'
   .refine(ET hT L hk hk1 u2 (vc:=vc) (voff:=gj.2) (vb:=gj.1) (x:=x) (vs:=vs) hi1 hl1 hg1 hlt2 p1 p2 p4 p5 p6 p7 hroom hxk (hvr.kept u1.kept) hvc2 hvb (tA:=elj) (kA:=arrj.size) (by show X.w.shape? _=_;simp[World.shape?,hbj]) (hxaF _) (hxaF _)).mono ?_;rintro e w' ⟨v,rfl,hv⟩;exact⟨v,rfl,conv _ (es.take n) u2 u1 hh v w' hv⟩
   .refine(KW hT L hk hk1 u2 (vc:=vc) (voff:=gj.2) (vb:=gj.1) (x:=x) (vs:=vs) hi1 hl1 hlt2 p1 p7 p3 (by omega) hxk (hvr.kept u1.kept) hvc2 hb hn2).mono ?_;rintro e w' ⟨v,rfl,hv⟩;exact⟨v,rfl,conv _ (es.take n) u2 u1 hh v w' hv⟩
end
end Go.Dm
end
section
namespace Go.Proofs.YtflcjdohmojepaaGreatDoor
open Go Go.Dm Go.Proofs.Tryz Go.Shelf
def XI:Go.Shelf.Ren:=⟨λ| 22=>300 | 29=>322 | 30=>323|n=>n,λ| 24=>27 | 9=>84 | 3=>3 | 4=>4 | 0=>0|n=>n,fun|n=>n⟩
theorem zMK:InsL prog XI:={
 mixed:=by kernel_rfl
 f22:=⟨Tryz.f300.name,by decide,Tryz.func300.trans (congrArg some (by kernel_rfl))⟩
 ov:=λxs w w' v h=>by
  have:=run_callFunc_extern func322 (by kernel_rfl) (by kernel_rfl) (by kernel_rfl) (e:=Extern.SlicesOverlaps.overlaps #[27,27] #[4]) (by kernel_rfl) xs w;refine this.trans ?_;rw[show (Extern.SlicesOverlaps.overlaps #[27,27] #[4] xs).run prog w=.ok v w' from h]
  rfl
 t0:=Tryz.underlying0
 a0:=Tryz.isAgg0
 z0:=Tryz.sizeOf0
 v0:=Tryz.zeroValue0
 t3:=Tryz.underlying3
 a3:=Tryz.isAgg3
 z3:=Tryz.sizeOf3
 v3:=Tryz.zeroValue3
 t4:=Tryz.underlying4
 a4:=Tryz.isAgg4
 z4:=Tryz.sizeOf4
 v4:=Tryz.zeroValue4
 t24:=Tryz.underlying27
 a24:=Tryz.isAgg27
 z24:=Tryz.sizeOf27
 v24:=Tryz.zeroValue27 }
theorem zJz{h:aD}{id jd n i:Nat}{es:List (List PV)}{x:List PV}(hid:h[id]?=some (.arr 5 es false))(hjd:h[jd]?=some (.arr 5 [x] false))(hne:id≠jd)(hn:n<=es.length)(hin:i<=n)(hn2:n<=1000000):
  aA prog 300 [.c (.own id 0 n),.c (.p (.i .i64 i)),.c (.own jd 0 1)] h λd h'=>d=.c (.own (h.length+1) 0 (n+1))/\h'=h.set id .dead++[.dead,.arr 5 (fZ i x (es.take n)) false] :=
 uA (k:=5) aF zMK (enters func300 rfl rfl) (by show (tab 84).size=5;rw[tab84]) (by decide) (by show (tab 27).k=_;rw[tab27];rfl)
  hid hjd hne hn hin (by show (n+1)*(tab 84).bytes<=_;rw[tab84];simp only;omega) (by omega)
end Go.Proofs.YtflcjdohmojepaaGreatDoor
end
section
namespace Go.Proofs.YtflcjdohmojepaaGreatDoor
open Go Go.Dm Go.Proofs Go.Proofs.Tryz
theorem zE7{h:aD}{i n:Nat}{es:List (List PV)}{t:List It}{p:List UInt8}{K:DV->aD->Prop}(h0:h[i]?=some (.arr 5 es false))(hes:es.take n=aS t)(ht:t.length<=1000000)(hs:Srt t)(hk:∀j,JL t p j->K (nU t p j) h):
  aA prog 116 [.c (.own i 0 n),.c (.p (.s p))] h K :=
 zC6 (R:=λd=>∃j,JL t p j/\d=nU t p j) rfl hes (aA.mono (QF ht hs) λd h' ⟨j,a,b,c⟩=>⟨⟨j,a,b⟩,c⟩) h0 (λd ⟨j,h1,h2⟩=>by subst h2;exact⟨rfl,hk j h1⟩)
theorem insert_k{h:aD}{id jd n i:Nat}{es:List (List PV)}{x:List PV}{K:DV->aD->Prop}(hid:h[id]?=some (.arr 5 es false))(hjd:h[jd]?=some (.arr 5 [x] false))(hne:id≠jd)(hn:n<=es.length)(hin:i<=n)(hn2:n<=1000000)
  (hk:K (.c (.own (h.length+1) 0 (n+1))) (h.set id .dead++[.dead,.arr 5 (fZ i x (es.take n)) false])):
  aA prog 300 [.c (.own id 0 n),.c (.p (.i .i64 i)),.c (.own jd 0 1)] h K :=
 aA.mono (zJz hid hjd hne hn hin hn2) (by rintro _ _ ⟨rfl,rfl⟩;exact hk)
theorem zHL{t:List It}{p:List UInt8}{it:Bool}(hp:p.length<=1000000000)(ht:t.length<=1000000)(hd:∀x∈t,x.n.d.length<=140737488355328):
  aA prog 246 [.c (.p (.sl 5 (aS t))),.c (.p (.s p)),.c (.p (.b it))] [] λr h=>∃es:List (List PV),es.take (t.filter λx=>!goF p it x).length=aS (t.filter λx=>!goF p it x)/\r=.c (.own 2 0 (t.filter λx=>!goF p it x).length)/\h=[.box [.p (.s p)],.box [.p (.b it)],.arr 5 es false]:=by
 have hc:=AJ ht hd;refine VP aF aN func246 rfl rfl λX0 hX=>?_;simp only[f246,go_sem]
 repeat' (first|exact⟨⟩|refine sp ?_|refine zC5 hc rfl ?_)
 refine zAf hp ht λes hes=>?_;generalize (t.filter λx=>!goF p it x)=f at hes
 repeat' (first|exact⟨⟩|refine sp ?_)
 all_goals first|exact⟨es,hes,rfl,rfl⟩|exact⟨es,hes,rfl⟩|(trace_state;exact⟨es,hes⟩)
theorem zHK{t:List It}{p:List UInt8}{it:Bool}{h:aD}{K:DV->aD->Prop}(hp:p.length<=1000000000)(ht:t.length<=1000000)(hd:∀x∈t,x.n.d.length<=140737488355328)
  (hk:∀es:List (List PV),es.take (t.filter λx=>!goF p it x).length=aS (t.filter λx=>!goF p it x)->K (.c (.own (2+h.length) 0 (t.filter λx=>!goF p it x).length)) (h++[.box [.p (.s p)],.box [.p (.b it)],.arr 5 es false])):
  aA prog 246 [.c (.p (.sl 5 (aS t))),.c (.p (.s p)),.c (.p (.b it))] h K:=by
 refine aA.mono (aA.frame h rfl (zHL hp ht hd)) ?_;rintro _ _ ⟨d0,h0,⟨es,h1,rfl,rfl⟩,rfl,rfl⟩;exact hk es h1
theorem AK{t:List It}{h:aD}{K:DV->aD->Prop}(ht:t.length<=1000000)(hd:∀x∈t,x.n.d.length<=140737488355328)(hk:K (.c (.own h.length 0 t.length)) (h++[.arr 5 (aS t) false])):
  aA prog 90 [.c (.p (.sl 5 (aS t)))] h K:=zC5 (AJ ht hd) rfl hk
end Go.Proofs.YtflcjdohmojepaaGreatDoor
end
