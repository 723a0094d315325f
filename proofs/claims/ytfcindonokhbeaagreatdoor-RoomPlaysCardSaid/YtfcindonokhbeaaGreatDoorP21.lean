/- Part 22 of roomPlays_card. No condition. -/
import Derived.Test.YtfcindonokhbeaaGreatDoorP20
import Derived.Test.YtfcindonokhbeaaGreatDoorP18
set_option linter.all false
set_option maxRecDepth 100000
set_option maxHeartbeats 0
section
namespace Go.Dm
open Go Go.Lib Go.Proofs Go.Shelf
section
variable {bl:Nat}{x:List PV}{es:Bc}
theorem fE{d:TypeId}{e:Nat × Nat}:∀(vs:Bb) (o:Nat) (w:World) (c:Array Value),w.heap[bl]?=some (.cells c d e) ->
  (∃a,(w.setCells bl o vs).heap[bl]?=some (.cells a d e)/\a.size=c.size)/\(∀b,b≠bl->(w.setCells bl o vs).heap[b]?=w.heap[b]?)/\(w.setCells bl o vs).heap.size=w.heap.size /\
  (w.setCells bl o vs).os=w.os/\(w.setCells bl o vs).tape=w.tape/\(w.setCells bl o vs).output=w.output/\(w.setCells bl o vs).drawn=w.drawn
 | [],o,w,c,h=>⟨⟨c,h,rfl⟩,λ_ _=>rfl,rfl,rfl,rfl,rfl,rfl⟩
 | v::r,o,w,c,h=>by
  have f:(w.setCell ⟨bl,o,none⟩ v).heap[bl]?=some (.cells (c.setIfInBounds o v) d e):=by grind [mE]
  obtain⟨⟨a,j,l⟩,t,u,m,p,q,s⟩:=fE r (o+1) _ _ f;refine⟨⟨a,j,by rw[l];simp⟩,λb y=>?_,?_,m,p,q,s⟩
  .show ((w.setCell ⟨bl,o,none⟩ v).setCells bl (o+1) r).heap[b]? = _;grind [mE]
  .show ((w.setCell ⟨bl,o,none⟩ v).setCells bl (o+1) r).heap.size=_;simp_all
theorem sK{w W:World}{off p q:Nat}{ca vs cb:Bb}(o:ca.length=p)(A:vs.length=q)
 (e:W=(w.setCells bl (off+(p+q)) cb).setCells bl (off+p) vs∨W=(w.setCells bl (off+p) vs).setCells bl (off+(p+q)) cb)
 (r:∀j v,ca[j]?=some v->w.cell? ⟨bl,off+j,none⟩=some v)(d:∀j,j<p+q+cb.length->(w.cell? ⟨bl,off+j,none⟩).isSome=true):
  ∀(j:Nat) (v:Value),(ca++vs++cb)[j]?=some v->W.cell? ⟨bl,off+j,none⟩=some v:=by
 intro j v b;have y:∀(u:World),(∀j,j<p+q+cb.length->(u.cell? ⟨bl,off+j,none⟩).isSome=true)->∀t,t<cb.length->(u.setCells bl (off+(p+q)) cb).cell? ⟨bl,off+(p+q+t),none⟩=cb[t]? := λu f t a=>by
  have:=World.cell?_setCells_in bl cb (off+(p+q)) u (λs c=>by rw[ig];exact f _ qd) t a
  rw[show off+(p+q+t)=off+(p+q)+t by omega,this,ay a]
 have z:∀(u:World),(∀j,j<p+q+cb.length->(u.cell? ⟨bl,off+j,none⟩).isSome=true)->∀t,t<vs.length->(u.setCells bl (off+p) vs).cell? ⟨bl,off+(p+t),none⟩=vs[t]? := λu f t a=>by
  have:=World.cell?_setCells_in bl vs (off+p) u (λs c=>by rw[ig];exact f _ qd) t a
  rw[show off+(p+t)=off+p+t by omega,this,ay a]
 have h:∀(u:World) t,t<p+q->(u.setCells bl (off+(p+q)) cb).cell? ⟨bl,off+t,none⟩=u.cell? ⟨bl,off+t,none⟩:=λu t a=>World.cell?_setCells_out bl _ _ _ _ λ_ _=>by simp only;omega
 have l:∀(u:World) t,(t<p∨p+q<=t)->(u.setCells bl (off+p) vs).cell? ⟨bl,off+t,none⟩=u.cell? ⟨bl,off+t,none⟩:=λu t a=>World.cell?_setCells_out bl _ _ _ _ λ_ _=>by simp only;omega
 have B:∀j,j<p+q+cb.length->((w.setCells bl (off+(p+q)) cb).cell? ⟨bl,off+j,none⟩).isSome=true:=λt a=>Go.Proofs.isSome_setCells bl _ _ _ (λs c=>by rw[ig];exact d _ qd) _ (d t a)
 have C:∀j,j<p+q+cb.length->((w.setCells bl (off+p) vs).cell? ⟨bl,off+j,none⟩).isSome=true:=λt a=>Go.Proofs.isSome_setCells bl _ _ _ (λs c=>by rw[ig];exact d _ qd) _ (d t a)
 rcases cc j p with m|m
 .rw[fu qk,fu qd] at b;rcases e with rfl|rfl
  .rw[l _ _ (.inl m),h _ _ qd];exact r j v b
  .rw[h _ _ qd,l _ _ (.inl m)];exact r j v b
 .rcases cc j (p+q) with D|D
  .rw[fu qk,gv qd] at b;obtain⟨t,rfl⟩:∃t,j=p+t:=⟨j-p,qd⟩
   rw[o,Nat.add_sub_cancel_left] at b;rcases e with rfl|rfl
   .rw[z _ B t qd];exact b
   .rw[h _ _ qd,z _ d t qd];exact b
  .rw[gv qk] at b;obtain⟨t,rfl⟩:∃t,j=p+q+t:=⟨j-(p+q),qd⟩
   rw[bo,o,A,Nat.add_sub_cancel_left] at b;have a:=aR b;rcases e with rfl|rfl
   .rw[l _ _ (.inr qd),y _ d t a];exact b
   .rw[y _ C t a];exact b
def iH(i:Nat)(x:List PV)(es:Bc):Bc:=es.take i++x::es.drop i
theorem EX{i:Nat}(h:i<=es.length):(iH i x es).length=es.length+1:=by grind [iH]
theorem PO(i:Nat)(x:List PV)(es:Bc):(iH i x es).flatten=(es.take i).flatten++x++(es.drop i).flatten:=by grind [iH]
theorem zHF: iH es.length x es=es++[x]:=by grind [iH]
section roads
variable {P:Program}{T:Tab}{ρ:Ren}
variable {k id n vc vb i voff cap:Nat}{X:Ctx}{es:Bc}{x:List PV}{vs:Bb}{g:Nat × Nat}{w:World}{S:Nat->Prop}{v1:Value}
theorem AP(r:bQ P T)(L:InsL P ρ)(hk:(T (ρ.t 9)).size=k)(D:0<k)(b:(T (ρ.t 24)).k=.slice (ρ.t 9))(hi:HInv X){c:Nat}{a:Option Addr}{vb:Addr}
 (hid:X.h[id]?=some (.arr k es false))(V:es.length=n)(E:bH X (.c (.own id 0 n)) (.slice a n c))(s:n<=c)(l:a=none->n=0)
 (u:x.length=k)(F:bV X.w X.S x vs)(A:∀(j:Nat) (v:Value),vs[j]?=some v->X.w.cell? (vb.add j)=some v)
 (G:(n+1)*(T (ρ.t 9)).bytes<=140737488355328)(H:n+1<=4611686018427387904):
  Calls P (ρ.f 22) #[.slice a n c,.int .i64 n,.slice (some vb) 1 vc] X.w λe w'=>∃v,e=.returned v/\Ret X (λd B=>d=.c (.own X.h.length 0 (n+1))/\B=X.h.set id .dead++[.arr k (es++[x]) false]) v w':=by
 have m:(T (ρ.t 9)).size≠0:=qd
 obtain⟨_,I,z,t1,_⟩:=cI r (bO r m);have o:∀y∈[x],y.length=(T (ρ.t 9)).size:=λy J=>by rw[ep.1 J,hk];exact u
 have p:bV X.w X.S [x].flatten vs:=qw
 have q:Src P (T (ρ.t 9)).size (ρ.t 24) (.slice (some vb) [x].length vc) [x].length vs X.w:=zOt r b rfl p o (λh=>by cases h) (λW M=>by cases M;exact A)
 obtain⟨v,d,C,N,O,Q,R,U⟩:=pZ (K:=λd B=>d=.c (.own X.h.length 0 (n+1))/\B=X.h.set id .dead++[.arr k (es++[x]) false]) (ty:=0) r hi b b m E (by rw[hk];exact hid) o p q qd G (by simp only[mq];omega) ⟨rfl,qu⟩
 refine(zPJ L I t1 a n c vb 1 vc X.w C.w v qd s l λty=>N).mono ?_;rintro e w' ⟨rfl,rfl⟩;exact⟨v,rfl,d,C,rfl,O,Q,R,U⟩
theorem zCN(hi:HInv X){v:Value}(hid:X.h[id]?=some (.arr k es false))(F:es.length=n)(d:X.G id=some g)(H:0<n)(t:bH X (.c (.own id 0 n)) v):
  ∃cap a e b,v=.slice (some ⟨g.1,g.2,none⟩) n cap/\X.w.heap[g.1]?=some (.cells a e b)/\n<=cap/\cap<=maxLen/\g.2+cap*k<=a.size/\wM k b g.2 a.size/\hD X.w X.S k g.1 g.2 es:=by
 obtain⟨_,_,u⟩:=t;obtain⟨_,l⟩:=u _ _ _ hid;rw[d] at l;obtain⟨cap,o,a,e,b,m,rfl,f,y,z,j⟩:=l;rcases hi.blk id _ hid with p|⟨I,q,A,B,r,s,J,C,D⟩
 .rw[d] at p;cases p.1
 rw[d] at r;cases r;rw[m] at s;cases s;have E:o=g.2:=by rcases f with f|f<;>omega
 subst E;exact⟨cap,a,e,b,rfl,m,y,z,by simpa using j,C,D⟩
theorem MH{bl off:Nat}(a:hD w S k bl off es)(hi:i<=es.length):
  ∃ca cb:Bb,bV w S (es.take i).flatten ca/\bV w S (es.drop i).flatten cb/\ca.length=i*k/\(ca++cb).length=es.length*k/\∀(j:Nat) (v:Value),(ca++cb)[j]?=some v->w.cell? ⟨bl,off+j,none⟩=some v:=by
 obtain⟨ca,b,c,d⟩:=(a.take i).vals;obtain⟨cb,f,h,l⟩:=(a.drop i).vals;have e:(es.take i).length=i:=qw
 have m:i*k+(es.length-i)*k=es.length*k:=by rw[<- ez];congr 1;omega
 grind
theorem WE{ca cb:Bb}(a:bV w S (es.take i).flatten ca)(b:bV w S x vs)(c:bV w S (es.drop i).flatten cb):bV w S (iH i x es).flatten (ca++vs++cb):=by
 rw[PO];exact(a.append b).append c
theorem JE(hT:bQ P T)(L:InsL P ρ)(hk:(T (ρ.t 9)).size=k)(hk1:1<k)(hi:HInv X){a:Array Value}{A:TypeId}{r:Nat × Nat}
 (hid:X.h[id]?=some (.arr k es false))(hl:es.length=n)(R:X.G id=some g)(Z:i<n)(hv1:v1=.slice (some ⟨g.1,g.2,none⟩) n cap)(q:X.w.heap[g.1]?=some (.cells a A r))(C:cap<=maxLen)(hsz:g.2+cap*k<=a.size)(D:wM k r g.2 a.size)(hL:hD X.w X.S k g.1 g.2 es)(l:n+1<=cap)
 (E:x.length=k)(u:bV X.w X.S x vs)(hvc:∀(j:Nat) (v:Value),vs[j]?=some v->X.w.cell? ⟨vb,voff+j,none⟩=some v)(hvb:vb≠g.1)
 {tA:TypeId}{kA:Nat}(hsa:X.w.shape? vb=some (tA,kA))(hfa:X.w.frozen? ⟨vb,voff,none⟩=false)(hfe:X.w.frozen? ⟨vb,kA,none⟩=false):
  Calls P (ρ.f 22) #[v1,.int .i64 i,.slice (some ⟨vb,voff,none⟩) 1 vc] X.w λe w'=>∃v,e=.returned v/\Ret X (λd h'=>d=.c (.own X.h.length 0 (n+1))/\h'=X.h.set id .dead++[.arr k (iH i x es) false]) v w':=by
 have hs0:(T (ρ.t 9)).size≠0:=qd
 obtain⟨_,i0,z,t1,t2,_⟩:=cI hT (bO hT hs0);have hlt:=aR hid;obtain⟨ca,cb,a1,a2,a3,a4,a5⟩:=MH (i:=i) hL qd;have hvl:vs.length=k:=by rw[<- u.length,E]
 rw[hl] at a4;have a6:cb.length+i*k=n*k:=by rw[<- a4,bo,a3];omega
 have m1:(n+1)*k<=cap*k:=gr _ l;have m2:(n+1)*k=n*k+k:=by rw[ez,iy]
 have m3:(i+1)*k=i*k+k:=by rw[ez,iy]
 have o:∀j,j<(n+1)*k->(X.w.cell? ⟨g.1,g.2+j,none⟩).isSome=true:=λj B=>by
  grind [World.cell?]
 have hfz:r.1=r.2:=by rcases D.2 with h|h;omega;exact h
 subst hv1;refine(zHI L i0 t1 k (by rw[t2,hk]) qd g.1 g.2 n cap i vb voff 1 vc (ca++cb) vs X.w Z qd l (by unfold maxLen at C;omega) hvb a4 qd a5 o (λj _=>by simp only[World.frozen?,q];simp;omega) hvc
  (λv F=>by rcases c9.1 F with F|F;exact a1.oneCell v F;exact a2.oneCell v F) u.oneCell tA A kA a.size hsa (by simp[World.shape?,q]) qd hfa hfe).mono ?_
 rintro e w' ⟨rfl,hw⟩;rw[List.drop_left' a3,m3] at hw;obtain⟨⟨H,b1,U⟩,b3,b4,b5,b6,b7,b8⟩:=fE cb (g.2+(i*k+k)) X.w.drew a q;obtain⟨⟨p,V,W⟩,c3,c4,c5,c6,c7,c8⟩:=fE vs (g.2+i*k) _ H b1;rw[<- hw] at V c3 c4 c5 c6 c7 c8;have I:Touched X.w w' g.1:=⟨c5.trans b5,c6.trans b6,⟨c7.trans b7,by rw[c8,b8];exact mg _⟩,c4.trans b4,λb hb=>(c3 b hb).trans (b3 b hb),.inl ⟨a,A,r,p,A,r,q,V,by rw[W,U]⟩⟩
 have J:=EX (x:=x) (es:=es) (i:=i) qd;have K:cX (.arr k es false) (.arr k (iH i x es) false):=⟨rfl,qd⟩
 have M:=Step.put hi hid rfl rfl R I K rfl;have N:HInv (X.put w' id (.arr k (iH i x es) false)):=HInv.put hi hid rfl rfl R I K rfl (by
  refine .inr ⟨g,p,A,r,R,V,by rw[J,W,U,hl];omega,by rw[W,U];exact D,hD.of_vals (λy s=>?_) ((WE a1 u a2).kept M.kept) ?_⟩
  .simp only[iH,c9,bx] at s;have O:∀y∈es,y.length=k:=λy s=>by
    obtain⟨j,B⟩:=eh.1 s;exact(hL.at_ B).1
   rcases s with s|rfl|s
   .exact O y (lg s)
   .exact E
   .exact O y (mf s)
  .exact sK (w:=X.w.drew) a3 hvl (.inl hw) (λj v B=>a5 j v (by rw[fu (aR B)];exact B)) (λj B=>o j qd))
 have Q:(X.put w' id (.arr k (iH i x es) false)).h[id]?=some (.arr k (iH i x es) false):=by
  simp only[Ctx.put];rw[mh];simp[hlt]
 obtain ⟨k3,k4⟩:=rebase (off:=0) N Q R qd;have m:((X.put w' id (.arr k (iH i x es) false)).rebase id (g.1,g.2+0*k) k ((iH i x es).drop 0)).h=X.h.set id .dead++[.arr k (iH i x es) false]:=by
  simp only[Ctx.rebase,Ctx.put,List.set_set,j9]
 refine⟨_,rfl,_,_,rfl,k4,M.trans N k3,?_,rfl,m⟩;refine vC (x:=.own X.h.length 0 (n+1)) ⟨by rw[m];simp,rfl,λk' es' ro' Y=>?_⟩
 rw[m] at Y;rw[show X.h.length=(X.h.set id .dead).length by simp,kc] at Y
 simp only[b0,DB.arr.injEq] at Y;obtain⟨rfl,rfl,rfl⟩:=Y;refine⟨qd,?_⟩
 simp only[Ctx.rebase,Ctx.put,ff,az];exact⟨cap,g.2,p,A,r,V,rfl,.inr ql,l,C,by rw[W,U];simpa using hsz⟩
theorem zPy{w':World}{o:Obj}(h1:w'.os=w.os)(a:w'.tape=w.tape)(c:wP w w')(d:w'.heap.size=w.heap.size+1)(e:∀b,b<w.heap.size->w'.heap[b]?=w.heap[b]?)(f:w'.heap[w.heap.size]?=some o):Grew w w' o:=by
 refine⟨Array.ext_getElem? λb=>?_,h1,a,c⟩;grind
set_option maxHeartbeats 1000000 in
theorem PT(hT:bQ P T)(L:InsL P ρ)(hk:(T (ρ.t 9)).size=k)(hk1:1<k)(hi:HInv X)
 (hid:X.h[id]?=some (.arr k es false))(hl:es.length=n)(hin:i<n)(hv1:v1=.slice (some ⟨g.1,g.2,none⟩) n cap)(hL:hD X.w X.S k g.1 g.2 es)(hnc:n<=cap)(q:cap<n+1)
 (F:x.length=k)(r:bV X.w X.S x vs)(hvc:∀(j:Nat) (v:Value),vs[j]?=some v->X.w.cell? ⟨vb,voff+j,none⟩=some v)
 (H:(n+1)*(T (ρ.t 9)).bytes<=140737488355328)(hn2:n+1<=4611686018427387904):
  Calls P (ρ.f 22) #[v1,.int .i64 i,.slice (some ⟨vb,voff,none⟩) 1 vc] X.w λe w'=>∃v,e=.returned v/\Ret X (λd h'=>d=.c (.own X.h.length 0 (n+1))/\h'=X.h.set id .dead++[.arr k (iH i x es) false]) v w':=by
 have hs0:(T (ρ.t 9)).size≠0:=qd
 obtain ⟨_,i0,z,t1,t2,t3,t4,t5,t6,t7,t8⟩:=cI hT (bO hT hs0);have hz:z.cells.size=k:=by
  have:=congrArg List.length t5;simp only[di] at this;rw[<- hk,t6,this];simp
 obtain⟨E,cb,a1,a2,I,a4,a5⟩:=MH (i:=i) hL qd;have hvl:vs.length=k:=by rw[<- r.length,F]
 rw[hl] at a4;have a6:cb.length+i*k=n*k:=by rw[<- a4,bo,I];omega
 have m2:(n+1)*k=n*k+k:=by rw[ez,iy]
 subst hv1;refine(zMc L i0 t1 z t4 k (by rw[t2,hk]) qd hz g.1 g.2 n cap i vb voff 1 vc (E++cb) vs X.w hin qd hnc q (by rw[t3];exact H) hn2 a4 qd a5 hvc
  (λv J=>by rcases c9.1 J with J|J;exact a1.oneCell v J;exact a2.oneCell v J) r.oneCell).mono ?_
 rintro e w' ⟨rfl,K⟩;rw[List.drop_left' I,ka I,iy] at K;have s:=grownCap_ge X.w (n+1) cap (ρ.t 9);have M:=grownCap_le_maxLen X.w (n+1) cap (ρ.t 9) ra;generalize grownCap X.w (n+1) cap (ρ.t 9)=G at s M K ⊢;have hR:(E.toArray++Builtin.zeroCells z.cells (n+1-i)++Builtin.zeroCells z.cells (G-(n+1))).size=G*k:=by
  simp only[l6,jz,I,size_zeroCells,hz,<- ez]
  congr 1;omega
 have N:∀(j:Nat) (v:Value),E[j]?=some v->(E.toArray++Builtin.zeroCells z.cells (n+1-i)++Builtin.zeroCells z.cells (G-(n+1)))[j]?=some v:=λj v l=>by
  have:=aR l;rw[mr (by rw[l6,jz];omega),mr (by rw[jz];omega)];simpa using l
 generalize E.toArray++Builtin.zeroCells z.cells (n+1-i)++Builtin.zeroCells z.cells (G-(n+1))=a at K hR N;have mG:(n+1)*k<=G*k:=gr _ s;have hu:((X.w.alloc (.cells a (ρ.t 9))).drew.drew).heap[X.w.heap.size]?=some (.cells a (ρ.t 9) (0,0)):=(Grew.alloc X.w (.cells a (ρ.t 9))).new;have A:w'=((X.w.alloc (.cells a (ρ.t 9))).drew.drew.setCells X.w.heap.size (0+i*k) vs).setCells X.w.heap.size (0+(i*k+k)) cb:=by
  rw[K,Go.Proofs.drew_setCells,fm,fm]
 have O:∀b,b<X.w.heap.size->((X.w.alloc (.cells a (ρ.t 9))).drew.drew).heap[b]?=X.w.heap[b]? := λb H=>(Grew.alloc X.w (.cells a (ρ.t 9))).old H;have Q:((X.w.alloc (.cells a (ρ.t 9))).drew.drew).heap.size=X.w.heap.size+1:=(Grew.alloc X.w (.cells a (ρ.t 9))).size;have R:((X.w.alloc (.cells a (ρ.t 9))).drew.drew).os=X.w.os:=rfl;have U:((X.w.alloc (.cells a (ρ.t 9))).drew.drew).tape=X.w.tape:=rfl;have B:wP X.w ((X.w.alloc (.cells a (ρ.t 9))).drew.drew):=⟨rfl,nz X.w.drawn 2⟩;generalize (X.w.alloc (.cells a (ρ.t 9))).drew.drew=u at hu O Q R U B A;clear K;obtain⟨⟨V,b1,b2⟩,b3,b4,b5,b6,b7,b8⟩:=fE vs (0+i*k) u a hu;obtain⟨⟨m,c1,c2⟩,c3,c4,c5,c6,c7,c8⟩:=fE cb (0+(i*k+k)) _ V b1;rw[<- A] at c1 c3 c4 c5 c6 c7 c8;have hgw:Grew X.w w' (.cells m (ρ.t 9) (0,0)):=zPy ((c5.trans b5).trans R) ((c6.trans b6).trans U) ⟨(c7.trans b7).trans B.1,by rw[c8,b8];exact B.2⟩ ((c4.trans b4).trans Q)
  (λb H=>((c3 b qd).trans (b3 b qd)).trans (O b H)) c1
 have C:∀j,j<(n+1)*k->(u.cell? ⟨X.w.heap.size,0+j,none⟩).isSome=true:=λj l=>by
  simp only[World.cell?,hu,gm,av,ax];rw[iz qd];rfl
 have D:=sK (w:=u) (W:=w') (bl:=X.w.heap.size) (off:=0) I hvl (.inr A) (λj v l=>by
  simp only[World.cell?,hu,gm,av,ax,fm];exact N j v l) (λj l=>C j qd)
 have Y:=EX (x:=x) (es:=es) (i:=i) qd;have Z:=hi.kill id;have hsk:=Step.kill hi id;have hkl:(X.kill id).h.length=X.h.length:=by simp[Ctx.kill]
 have o:Grew (X.kill id).w w' (.cells m (ρ.t 9) (0,0)):=hgw;obtain⟨k1,k2⟩:=vZ (X:=X.kill id) (k:=k) (es:=iH i x es) (vs:=E++vs++cb) Z o (λy p=>by
   simp only[iH,c9,bx] at p;have hek:∀y∈es,y.length=k:=λy p=>by
    obtain⟨j,l⟩:=eh.1 p;exact(hL.at_ l).1
   rcases p with p|rfl|p
   .exact hek y (lg p)
   .exact F
   .exact hek y (mf p)) (WE a1 r a2) (λj v l=>by
  have:=D j v l;simp only[World.cell?,c1,gm,av,ax,fm] at this;exact this) (by rw[Y,c2,b2,hR,hl];exact mG) (wM.zero _ _ _)
 have ho:=wC (X:=X.kill id) (k:=k) (n:=n+1) (cap:=G) (es:=iH i x es) o qd s M (by rw[c2,b2,hR];exact bg _);rw[hkl] at ho;exact⟨_,rfl,_,_,rfl,k2,hsk.trans Z k1,ho,rfl,rfl⟩
end roads
theorem wZ{P:Program}{T:Tab}(hT:bQ P T){ρ:Ren}(L:InsL P ρ)(hen:∀(vals:Bb) (w:World),(callFunc (ρ.f 22) vals.toArray).run P w=.ok (.enter (ρ.f 22) vals.toArray) w)
  {k:Nat}(O:(T (ρ.t 9)).size=k)(hk1:1<k)(h24:(T (ρ.t 24)).k=.slice (ρ.t 9))
  {h:aF}{id jd n i:Nat}{es:Bc}{x:List PV}(hid:h[id]?=some (.arr k es false))(Q:h[jd]?=some (.arr k [x] false))(hne:id≠jd)(hn:n<=es.length)(hin:i<=n)
  (hb:(n+1)*(T (ρ.t 9)).bytes<=140737488355328)(R:n+1<=4611686018427387904):
  aA P (ρ.f 22) [.c (.own id 0 n),.c (.p (.i .i64 i)),.c (.own jd 0 1)] h λd h'=>d=.c (.own (h.length+1) 0 (n+1))/\h'=h.set id .dead++[.dead,.arr k (iH i x (es.take n)) false]:=by
 intro X vals D hi gd q;subst D;obtain⟨v1,v3,rfl,U,m⟩:∃v1 v3,vals=[v1,.int .i64 i,v3]/\bH X (.c (.own id 0 n)) v1/\bH X (.c (.own jd 0 1)) v3:=by
  match vals,q with
  | [v1,v2,v3],q =>
   obtain⟨h1,h2,J,_⟩:=q;have h2:v2=.int .i64 i:=h2;exact⟨v1,v3,by rw[h2],h1,J⟩
  | [],q=>exact q.elim
  | [_],q=>exact q.2.elim
  | [_,_],q=>exact q.2.2.elim
  | _::_::_::_::_,q=>exact q.2.2.2.elim
 refine .inl ⟨hen _ _,?_⟩;have hs0:(T (ρ.t 9)).size≠0:=qd
 have hkn:=bO hT hs0;obtain⟨_,i0,z,t1,t2,t3,t4,t5,t6,t7,t8⟩:=cI hT hkn;have hk0:i0.size=k:=by rw[t2,O]
 have hz:z.cells.size=k:=by
  have:=congrArg List.length t5;simp only[di] at this;rw[<- O,t6,this];simp
 obtain⟨_,_,m⟩:=m;obtain⟨_,m⟩:=m _ _ _ Q;rcases hi.blk jd _ Q with E|⟨l,arrj,elj,fzj,hGj,V,hsj,hfj,hLj⟩
 .cases E.2
 rw[hGj] at m;obtain⟨vc,oj,_,_,_,K,rfl,r,hvc,_,_⟩:=m;rw[V] at K;cases K;have r:oj=l.2:=by rcases r with r|r<;>omega
 subst r;have s:x.length=k:=(hLj.at_ (j:=0) rfl).1;have hnl:∀y∈[x],y.length=(T (ρ.t 9)).size:=λy hy=>by rw[ep.1 hy,O];exact s
 obtain⟨vs,u,hvl,A⟩:=hLj.vals;have hfx:[x].flatten=x:=ql
 rw[hfx] at u;have hvl:vs.length=1*k:=hvl;have hfj2:fzj.1=fzj.2:=by rcases hfj.2 with h|h;omega;exact h
 have M:∀o,X.w.frozen? ⟨l.1,o,none⟩=false:=λo=>by
  simp only[World.frozen?,V];simp;omega
 have hvx:∀(j:Nat) (v:Value),vs[j]?=some v->X.w.cell? ((⟨l.1,l.2,none⟩:Addr).add j)=some v:=λj v hj=>by rw[Addr.add_lit];exact A j v hj
 have hkid:=Step.kill hi id;have hlt:=aR hid;have conv:∀(W:Ctx) (F:Bc),HInv W->Step X W->W.h=X.h.set id .dead++[.arr k F false]->∀v w',Ret W (λd h'=>d=.c (.own W.h.length 0 (n+1))/\h'=W.h.set X.h.length .dead++[.arr k (iH i x F) false]) v w' ->
   Ret X (λd h'=>d=.c (.own (X.h.length+1) 0 (n+1))/\h'=X.h.set id .dead++[.dead,.arr k (iH i x F) false]) v w':=λW F h1 h2 J v w' ⟨d,X',r1,r2,r3,r4,r5,r6⟩=>by
  refine⟨d,X',r1,r2,h2.trans h1 r3,r4,?_,?_⟩
  .rw[r5,J];simp
  .rw[r6,J,show X.h.length=(X.h.set id .dead).length by simp,lr _ _ (bg _),jg,i7,gf];rfl
 cases hg:X.G id with
 | none =>
  have hv1':=U;obtain⟨_,_,J⟩:=U;obtain⟨h4,h5⟩:=J _ _ _ hid;rw[hg] at h5;simp only at h5;subst h5;have he:es=[]:=by
   rcases hi.blk id _ hid with E|⟨g',_,_,_,E,_⟩
   .exact E.2
   .rw[hg] at E;cases E
  subst he;have hn0:n=0:=by simpa using hn
  subst hn0;have hi0:i=0:=qd
  subst hi0;have hik:=hi.kill id;obtain⟨H,B⟩:=virt hik k;have hkl:(X.kill id).h.length=X.h.length:=by simp[Ctx.kill]
  have D:((X.kill id).virt k).h=X.h.set id .dead++[.arr k [] false]:=rfl
  have hst:=hkid.trans hik H;have I:bH ((X.kill id).virt k) (.c (.own X.h.length 0 0)) (.slice none 0 0):=by
   have:=kT (X:=X.kill id) (k:=k) (v:=.slice none 0 0) (by simp[cJ,dO]);rw[hkl] at this;exact this
  have b:((X.kill id).virt k).h[X.h.length]?=some (.arr k [] false):=by
   rw[D,show X.h.length=(X.h.set id .dead).length by simp,kc]
  refine(AP hT L O qd h24 B (vc:=vc) (vb:=⟨l.1,l.2,none⟩) (x:=x) (vs:=vs) b rfl I (bg _) (λ_=>rfl) s (u.kept hst.kept) hvx hb R).mono ?_;rintro e w' ⟨v,rfl,Y⟩;exact⟨v,rfl,conv _ [] B hst D v w' (Y.mono λd h ⟨q1,q2⟩=>⟨q1,q2⟩)⟩
 | some g =>
  obtain⟨H,B⟩:=QX (off:=0) (len:=n) hi hid hg qd;rw[j9,me,je] at H B;have D:(X.rebase id (g.1,g.2) k (es.take n)).h=X.h.set id .dead++[.arr k (es.take n) false]:=rfl
  have b:(X.rebase id (g.1,g.2) k (es.take n)).h[X.h.length]?=some (.arr k (es.take n) false):=by
   rw[D,show X.h.length=(X.h.set id .dead).length by simp,kc]
  have Z:(X.rebase id (g.1,g.2) k (es.take n)).G X.h.length=some (g.1,g.2):=re
  have C:(es.take n).length=n:=by rw[cr];omega
  obtain ⟨_,hone,J⟩:=U;obtain⟨h4,h5⟩:=J _ _ _ hid;rw[hg] at h5;obtain⟨cap,o,a,el,fz,h6,rfl,h7,h8,h9,h10⟩:=h5;have I:bH (X.rebase id (g.1,g.2) k (es.take n)) (.c (.own X.h.length 0 n)) (.slice (some ⟨g.1,o,none⟩) n cap):=by
   refine vC (x:=.own X.h.length 0 n) ⟨by rw[D];simp,rfl,λk' es' ro' E=>?_⟩
   rw[b] at E;simp only[b0,DB.arr.injEq] at E;obtain⟨rfl,rfl,rfl⟩:=E;refine⟨qd,?_⟩
   rw[Z];exact⟨cap,o,a,el,fz,h6,rfl,by simpa using h7,h8,h9,by simpa using h10⟩
  by_cases hie:i=n
  .subst hie;refine(AP hT L O qd h24 B (vc:=vc) (vb:=⟨l.1,l.2,none⟩) (x:=x) (vs:=vs) b C I h8 (λh=>by cases h) s (u.kept H.kept) hvx hb R).mono ?_
   rintro e w' ⟨v,rfl,Y⟩;have he:iH i x (es.take i)=es.take i++[x]:=by
    have:=zHF (x:=x) (es:=es.take i);rw[C] at this;exact this
   refine⟨v,rfl,conv _ (es.take i) B H D v w' (Y.mono λd h ⟨q1,q2⟩=>⟨q1,by rw[q2,he]⟩)⟩
  .have N:i<n:=qd
   obtain⟨cap',arr',el',fz',p1,p2,p3,p4,p5,p6,p7⟩:=zCN B b C Z qd I;have hvb:l.1≠g.1:=λe=>hne (hi.inj id _ jd _ g l hid rfl rfl Q rfl hg hGj e.symm);by_cases hroom:n+1<=cap'
   .refine(JE hT L O hk1 B (vc:=vc) (voff:=l.2) (vb:=l.1) (x:=x) (vs:=vs) b C Z N p1 p2 p4 p5 p6 p7 hroom s (u.kept H.kept) A hvb (tA:=elj) (kA:=arrj.size) (by show X.w.shape? _=_;simp[World.shape?,V]) (M _) (M _)).mono ?_;rintro e w' ⟨v,rfl,Y⟩;exact⟨v,rfl,conv _ (es.take n) B H D v w' Y⟩
   .refine(PT hT L O hk1 B (vc:=vc) (voff:=l.2) (vb:=l.1) (x:=x) (vs:=vs) b C N p1 p7 p3 qd s (u.kept H.kept) A hb R).mono ?_;rintro e w' ⟨v,rfl,Y⟩;exact⟨v,rfl,conv _ (es.take n) B H D v w' Y⟩
end
end Go.Dm
end
section
namespace Go.Dm
open Go
section
variable {l:Bm}{id t:Int}{T O:List Int}
theorem XF: ∀{a b:List Int},a.Nodup->(∀x∈a,x∈b)->a.length<=b.length
 | [],_,_,_=>by simp_all
 | x::a,b,f,g=>by
  have c:=ja.1 f;have:=XF (b:=b.erase x) c.2 λy d=>(List.mem_erase_of_ne (show y≠x by intro e;subst e;exact c.1 d)).2 (g y (cu _ d))
  grind
structure Bfs (l:Bm) (id:Int) (T O:List Int):Prop where
 nd:O.Nodup
 there:∀a∈O,∃x∈l,x.i=a
 anc:∀a∈O,a∈lT l id
 todo:∀t∈T,(∃x∈l,x.i=t)->t∈lT l id
 self:(∃x∈l,x.i=id)->id∈O∨id∈T
 up:∀x∈l,x.i∈O->∀y∈l,(y.i=x.p∨y.i=x.s)->y.i∈O∨y.i∈T
 len:T.length<=1+2*O.length
theorem Bfs.start: Bfs l id [id] []:=by
 refine⟨List.nodup_nil,λa h=>(by cases h),λa h=>(by cases h),λt b h=>?_,λ_=>.inr (ep.2 rfl),λx _ h=>(by cases h),bg _⟩;grind [wQ]
theorem Bfs.skip(h:Bfs l id (t::T) O)(d:fQ l t=none∨t∈O):Bfs l id T O:=by
 have f:∀a,(∃x∈l,x.i=a)->a∈O∨a∈t::T->a∈O∨a∈T:=by
  rintro a ⟨x,c,rfl⟩ (b|b)
  .exact .inl b
  .rcases bx.1 b with e|b
   .rcases d with d|d
    .exact absurd e (zLQ d x c)
    .exact .inl (e▸d)
   .exact .inr b
 exact⟨h.nd,h.there,h.anc,λa b=>h.todo a (cu _ b),λc=>f _ c (h.self c),λx c g y j k=>f _ ⟨y,j,rfl⟩ (h.up x c g y j k),by have:=h.len;simp only[bw] at this;omega⟩
theorem Bfs.more(m:OkG l){x:Ly}(h:Bfs l id (t::T) O)(w:fQ l t=some x)(A:t ∉ O):Bfs l id (T++[x.p,x.s]) (O++[x.i])/\x.i=t/\O.length<l.length:=by
 obtain ⟨k,rfl⟩:=oW w;have q:x.i∈lT l id:=h.todo _ cz ⟨x,k,rfl⟩;have f:(O++[x.i]).Nodup:=by
  rw[o7];refine⟨h.nd,ql,λa c b d e=>?_⟩
  rw[ep] at d;subst d;subst e;exact A c
 have g:∀a∈O++[x.i],∃y∈l,y.i=a:=λa c=>by
  rcases c9.1 c with c|c
  .exact h.there a c
  .rw[ep] at c;exact⟨x,k,c.symm⟩
 refine⟨⟨f,g,λa c=>?_,λa c d=>?_,λn=>?_,λz r o y j u=>?_,?_⟩,rfl,?_⟩
 .rcases c9.1 c with c|c
  .exact h.anc a c
  .rw[ep] at c;exact c▸q
 .rcases c9.1 c with c|c
  .exact h.todo a (cu _ c) d
  .obtain⟨y,j,rfl⟩:=d;refine ND m k j q ?_;simpa using c
 .rcases h.self n with c|c
  .exact .inl (fg _ c)
  .rcases bx.1 c with e|c
   .exact .inl (jy _ (ep.2 e))
   .exact .inr (fg _ c)
 .rcases c9.1 o with c|c
  .rcases h.up z r c y j u with d|d
   .exact .inl (fg _ d)
   .rcases bx.1 d with e|d
    .exact .inl (jy _ (ep.2 e))
    .exact .inr (fg _ d)
  .rw[ep] at c;have v:=qH m.inc r;have B:=qH m.inc k;rw[c,B] at v;cases v;refine .inr (jy _ ?_);simpa using u
 .have:=h.len;simp only[bw,bo,da] at this ⊢;omega
 .have:=XF (b:=l.map (·.i)) f λa c=>by
   obtain⟨y,j,rfl⟩:=g a c;exact cg.2 ⟨y,j,rfl⟩
  simp only[bo,bw,da,di] at this;omega
theorem Bfs.done(i:OkG l)(h:Bfs l id [] O):(O.mergeSort λx y=>decide (x<=y))=lT l id:=by
 have j:∀a,a∈O↔a∈lT l id:=λa=>⟨h.anc a,λk=>tG (C:=λa=>a∈O) (λx f e=>by
   rcases h.self ⟨x,f,e⟩ with d|d
   .exact e▸d
   .cases d) (λx f m y n o=>by
   rcases h.up x f m y n o with d|d
   .exact d
   .cases d) a k⟩
 refine zAU ?_ (BV i.inc id) λa=>by rw[List.mem_mergeSort];exact j a
 have p:(O.mergeSort λx y=>decide (x<=y)).Pairwise (λx y=>decide (x<=y)=true):=np (λa b c d g=>by simp only[ew] at *;omega) (λa b=>by simp only[fj,ew];omega) O
 have q:(O.mergeSort λx y=>decide (x<=y)).Nodup:=(l4 O _).nodup_iff.2 h.nd;exact(p.and q).imp λ{a b} d=>by
  have g:=d.1;have r:a≠b:=d.2;simp only[ew] at g;omega
end
end Go.Dm
end
section
namespace Go.Dm
open Go Go.Proofs Go.Sort
def GN{w:World}{S:Nat->Prop}{bl:Nat}:∀{ss:List Int} {off:Nat},hD w S 1 bl off (cU ss)↔∀j (b:j<ss.length),w.cell? ⟨bl,off+j,none⟩=some (.int .i64 ss[j])
 | [],off=>by simp[cU,hD]
 | a::ss,off=>by
  have c:=@GN w S bl ss (off+1);show ((([PV.i .i64 a]:List PV).length=1/\jC w S bl off [.i .i64 a])/\hD w S 1 bl (off+1) (cU ss))↔_;rw[c];simp only[jC,dO,bw,da,jw,i6];constructor
  .grind
  .intro h;refine⟨⟨_,by simpa using h 0 ql,rfl⟩,λj b=>?_⟩
   simp_all
def zDQ{w:World}{S:Nat->Prop}{bl off:Nat}{ss:List Int}{a:Array Value}{c:TypeId}{b:Nat × Nat}(f:w.heap[bl]?=some (.cells a c b))(d:zBN b off a.size)(g:off+ss.length<=a.size)(h:hD w S 1 bl off (cU ss)):Holds (Value.int .i64) w bl off ss.toArray:=by
 intro j i;have e:j<ss.length:=qd
 refine⟨?_,?_⟩
 .grind [GN.1]
 .have:=d.at_ (off+j) qd qd;grind [World.frozen?]
def HH{w:World}{n bl off:Nat}{d:Array Int}{a:Array Value}{c:TypeId}{e:Nat × Nat}(g:w.heap[bl]?=some (.cells a c e)):Touched w (putRow (Value.int .i64) (Sort.ahead w n) bl off d) bl where
 os:=rfl
 tape:=rfl
 output:=⟨rfl,nz _ _⟩
 size:=ql
 other:=λb f=>by simp[putRow,mapBlock,ia,Ne.symm f]
 here:=.inl ⟨a,c,e,putCells (Value.int .i64) off d a,c,e,g,by simp[putRow,mapBlock,ia,g,onCells],by simp[putCells]⟩
def TH{P:Program}{f:FuncId}(B:∀(vals:Bb) (w:World),(callFunc f vals.toArray).run P w=.ok (.enter f vals.toArray) w)
  (V:∀(i off cap:Nat) (ss:List Int) (w:World),Holds (Value.int .i64) w i off ss.toArray->i<w.heap.size->ss.length<4611686018427387904 ->
   Calls P f #[.slice (some ⟨i,off,none⟩) ss.length cap] w λe w'=>e=.returned (.tuple #[])/\∃n os,w'=grow (putRow (Value.int .i64) (Sort.ahead w n) i off (ss.mergeSort λx y=>decide (x<=y)).toArray) os)
  (W:∀(p:Option Addr) (cap:Nat) (w:World),Calls P f #[.slice p 0 cap] w λe w'=>e=.returned (.tuple #[])/\w'=w)
  {h:aF}{id:Nat}{ss:List Int}(hid:h[id]?=some (.arr 1 (cU ss) false))(C:ss.length<4611686018427387904):
  aA P f [.c (.own id 0 ss.length)] h λd D=>d=.tup []/\D=h.set id (.arr 1 (cU (ss.mergeSort λx y=>decide (x<=y))) false):=by
 intro X vals Y t gd E;subst Y;obtain⟨v,rfl,Z⟩:∃v,vals=[v]/\bH X (.c (.own id 0 ss.length)) v:=by
  cases vals with
  | nil=>exact E.elim
  | cons v vs=>cases vs with
   | nil=>exact⟨v,rfl,E.1⟩
   | cons _ _=>exact E.2.elim
 refine .inl ⟨B _ _,?_⟩;obtain⟨h1,h2,h3⟩:=Z;obtain⟨h4,r⟩:=h3 _ _ _ hid;have b:=t.blk id _ hid;have e0:ss=[]->X.h.set id (.arr 1 (cU (ss.mergeSort λx y=>decide (x<=y))) false)=X.h:=by
  rintro rfl;rw[o5];exact(bz.1 hid).elim λm he=>by rw[<- he];exact kj m
 have k:ss=[]->∀(p:Option Addr) (cap:Nat),v=.slice p 0 cap->Calls P f [v].toArray X.w λe w'=>∃v,e=.returned v/\Ret X (λd D=>d=.tup []/\D=X.h.set id (.arr 1 (cU (ss.mergeSort λx y=>decide (x<=y))) false)) v w':=by
  rintro F p cap rfl;refine(W p cap X.w).mono ?_;rintro e w' ⟨rfl,rfl⟩;exact⟨_,rfl,.tup [],X,rfl,t,Step.refl t,⟨[],rfl,True.intro⟩,rfl,(e0 F).symm⟩
 cases l:X.G id with
 | none =>
  rw [l] at r;simp only at r;have F:ss=[]:=by
   rcases b with b|⟨g,_,_,_,b,_⟩
   .simpa[cU] using b.2
   .rw[l] at b;cases b
  exact k F _ _ r
 | some g =>
  rw[l] at r;simp only at r;obtain⟨cap,o,a,el,fz,s,H,I,k4,k5,k6⟩:=r;by_cases N:ss.length=0
  .rw[N] at H;exact k (j8.1 N) _ _ H
  .have ho:o=g.2:=by rcases I with I|I<;>omega
   subst ho;rcases b with b|⟨g',O,el',fz',Q,R,J,S,b5⟩
   .rw[l] at b;cases b.1
   rw [l] at Q;cases Q;rw[s] at R;cases R;rw[fV,kh] at J;have T:=zDQ s S.1 J b5;have m:g.1<X.w.heap.size:=by
    rcases cc g.1 X.w.heap.size with b|b
    .exact b
    .rw[jx b] at s;cases s
   subst H;refine(V g.1 g.2 cap ss X.w T m C).mono ?_;rintro e w' ⟨rfl,n,os,rfl⟩;generalize K:(ss.mergeSort λx y=>decide (x<=y))=st;have u:st.length=ss.length:=by rw[<- K];exact iq ..
   have U:=HH (n:=n) (off:=g.2) (d:=st.toArray) s;have z:cX (.arr 1 (cU ss) false) (.arr 1 (cU st) false):=⟨rfl,by rw[fV,fV];omega⟩
   have L:fI (X.put (putRow (Value.int .i64) (Sort.ahead X.w n) g.1 g.2 st.toArray) id (.arr 1 (cU st) false)) id (.arr 1 (cU st) false):=by
    refine .inr ⟨g,putCells (Value.int .i64) g.2 st.toArray a,el,fz,l,by simp[Ctx.put,putRow,mapBlock,ia,s,onCells],?_,?_,?_⟩
    .rw[fV,kh,u];simpa[putCells] using J
    .simpa[putCells] using S
    .refine GN.2 λj A=>?_;have:=cell?_putRow (Value.int .i64) (Sort.ahead X.w n) g.1 g.2 ss.toArray st.toArray (λj A=>T j A) (by simpa using u) j (by simpa using A);show (putRow (Value.int .i64) (Sort.ahead X.w n) g.1 g.2 st.toArray).cell? _=_;rw[this];simp[A]
   have q:=HInv.put t hid rfl rfl l U z rfl L;have M:=Step.put t hid rfl rfl l U z rfl;exact⟨_,rfl,.tup [],_,rfl,HInv.grew q os,M.trans q (Step.grew q os),⟨[],rfl,True.intro⟩,rfl,rfl⟩
end Go.Dm
end
