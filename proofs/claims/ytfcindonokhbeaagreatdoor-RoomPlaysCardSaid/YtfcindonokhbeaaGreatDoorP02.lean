/- Part 3 of roomPlays_card. No condition. -/
import Derived.Test.YtfcindonokhbeaaGreatDoorP01
import Derived.Deep.LoopGhost
import Derived.StillTail
import Derived.MapKept
set_option linter.all false
set_option maxRecDepth 100000
set_option maxHeartbeats 0
section
section
namespace Go.Dm
open Go
section app
variable {P:Program}{T:Tab}{X:Ctx}{K:Bd}
variable {u e' c t e:Nat}{news:Bc}{nvs:Bb}{xa:Option Addr}{vd:Value}
theorem zOt(p:bQ P T){k n:Nat}(q:(T u).k=.slice e'){a:Option Addr}{vs:Bb}{w:World}{S:Nat->Prop}(g:news.length=n)(l:bV w S news.flatten vs)(A:∀e∈news,e.length=k)
 (B:a=none->news=[])(C:∀b,a=some b->∀(j:Nat) (v:Value),vs[j]?=some v->w.cell? (b.add j)=some v):Src P k u (.slice a n c) n vs w:=by
 cases a with
 | none =>
  have:=B rfl;subst this;cases vs with
  | nil=>simp only[da] at g;subst g;exact Src.ofNil w (bF p q) c
  | cons _ _=>exact l.elim
 | some b=>exact Src.ofSlice w (bF p q) b n c vs (by rw[l.length_flatten A,g]) (C b rfl) l.oneCell
theorem oP(N:bQ P T)(hi:HInv X)(ht:(T t).k=.slice e)(he:(T e).size≠0){l:Option Addr}{b g m:Nat}{olds:Bc}{ovs:Bb}{ty:TypeId}
 (C:∀x∈olds,x.length=(T e).size)(D:∀x∈news,x.length=(T e).size)(E:bV X.w X.S olds.flatten ovs)(F:bV X.w X.S news.flatten nvs)(q:olds.length=b)(A:news.length=m)
 (hold:(Builtin.firstCells (T e).size b (.slice l b g)).run P X.w.drew=.ok ovs.toArray X.w.drew)(hs:Src P (T e).size u (.slice xa m c) m nvs X.w)
 (hg:g<b+m)(hb:(b+m)*(T e).bytes<=140737488355328)(hm:b+m<=9223372036854775807)(_hu:(T u).k=.slice e')
 (h:K (.c (.own X.h.length 0 (b+m))) (X.h++[.arr (T e).size (olds++news) false])):
  Val X K ((Builtin.append_ #[t,u] ty #[.slice l b g,.slice xa m c]).run P X.w):=by
 obtain ⟨_,i,z,h1,h2,h3,h4,h5,h6,h7,h8⟩:=cI N (bO N he);rw[<- h2] at hold hs;rw[<- h3] at hb;have G:=run_append_grow_src (P:=P) X.w t u ty e i z (bF N ht) h1 h4 l b g ovs hold (.slice xa m c) m nvs hs hg qd (growslice_fits hg hb);have I:=grownCap_ge X.w (b+m) g e;have O:=grownCap_le_maxLen X.w (b+m) g e ra;have hz:z.cells.size=(T e).size:=by
  have:=congrArg List.length h5;simp only[di] at this;rw[h6,this];simp
 have U:=E.length_flatten C;have W:=F.length_flatten D;have p:((ovs++nvs).toArray++Builtin.zeroCells z.cells (grownCap X.w (b+m) g e-(b+m))).size=grownCap X.w (b+m) g e*(T e).size:=by
  simp only[l6,jz,bo,size_zeroCells,hz,U,W,q,A,<- ez]
  congr 1;omega
 have J:Grew X.w (X.w.drew.alloc (.cells ((ovs++nvs).toArray++Builtin.zeroCells z.cells (grownCap X.w (b+m) g e-(b+m))) e)) (.cells ((ovs++nvs).toArray++Builtin.zeroCells z.cells (grownCap X.w (b+m) g e-(b+m))) e (0,0)) :=
  Grew.drew (Grew.alloc _ _)
 have B:(olds++news).length=b+m:=by simp[q,A]
 obtain ⟨h9,Z⟩:=vZ (k:=(T e).size) (es:=olds++news) (vs:=ovs++nvs) hi J (λx M=>by rcases c9.1 M with M|M;exact C x M;exact D x M) (by rw[ni];exact E.append F)
  (λj v hj=>by rw[mr (by have:=aR hj;simpa using this)];simpa using hj) (by rw[p,B];exact gr _ I) (wM.zero _ _ _)
 exact⟨_,_,_,G,Z,h9,wC (k:=(T e).size) (es:=olds++news) J (by rw[B];exact bg _) I O (by rw[p];exact bg _),h⟩
theorem DE(g:bQ P T)(hi:HInv X)(l:(T t).k=.slice e)(p:(T e).size≠0)(q:(T u).k=.slice e'){ty:TypeId}
 (A:Src P (T e).size u (.slice xa 0 c) 0 nvs X.w)(h:K (.c (.own X.h.length 0 0)) (X.h++[.arr (T e).size [] false])):
  Val X K ((Builtin.append_ #[t,u] ty #[.slice none 0 0,.slice xa 0 c]).run P X.w):=by
 obtain⟨B,C⟩:=virt hi (T e).size;have b:=A.cells;refine⟨.slice none 0 0,_,X.virt (T e).size,?_,C,B,vC (kT (X:=X) (k:=(T e).size) (v:=.slice none 0 0) (by simp[cJ,dO])),h⟩;obtain⟨_,i,z,D,E,_⟩:=cI g (bO g p);rw[<- E] at b;simp[Builtin.append_,run_underlying (bF g l),run_underlying (bF g q),sizeOf,typeInfo,D,Builtin.lenOf,b,Ctx.virt]
theorem pZ(I:bQ P T)(hi:HInv X)(ht:(T t).k=.slice e)(hu:(T u).k=.slice e')(hs:(T e).size≠0){id off len:Nat}{es:Bc}{ty:TypeId}
 (hd:bH X (.c (.own id off len)) vd)(hid:X.h[id]?=some (.arr (T e).size es false))(B:∀x∈news,x.length=(T e).size)(q:bV X.w X.S news.flatten nvs)(l:Src P (T e).size u (.slice xa news.length c) news.length nvs X.w)
 (Z:off+len=es.length)(hb:(len+news.length)*(T e).bytes<=140737488355328)(hm:len+news.length<=9223372036854775807)
 (h:K (.c (.own X.h.length 0 (len+news.length))) (X.h.set id .dead++[.arr (T e).size (es.drop off++news) false])):
  Val X K ((Builtin.append_ #[t,u] ty #[vd,.slice xa news.length c]).run P X.w):=by
 obtain ⟨hlt,_,h3⟩:=hd;obtain⟨h4,h5⟩:=h3 _ _ _ hid;have D:=hi.blk id _ hid;have C:=hi.kill id;have hsk:=Step.kill hi id;have fin:Val (X.kill id) K ((Builtin.append_ #[t,u] ty #[vd,.slice xa news.length c]).run P (X.kill id).w)->Val X K ((Builtin.append_ #[t,u] ty #[vd,.slice xa news.length c]).run P X.w):=by
  rintro⟨v,d,X',g1,g2,g3,g4,g5⟩;exact⟨v,d,X',g1,g2,hsk.trans C g3,g4,g5⟩
 have J:(X.kill id).h.length=X.h.length:=by simp[Ctx.kill]
 cases hG:X.G id with
 | none =>
  rw[hG] at h5;subst h5;rcases D with hb'|⟨g',_,_,_,hg,_⟩
  .obtain ⟨_,rfl⟩:=hb';simp only[da] at Z;have hoff:off=0:=qd
   have hlen:len=0:=qd
   subst hoff;subst hlen;apply fin;by_cases h0:news.length=0
   .rw[h0] at l h ⊢;have:=j0 h0;subst this;exact DE (X:=X.kill id) I C ht hs hu l (by rw[J];exact h)
   .refine oP (X:=X.kill id) (olds:=[]) (ovs:=[]) I C ht hs (λx U=>by cases U) B True.intro q rfl rfl ?_ l qd (by simpa using hb) (by simpa using hm) hu (by rw[J];simpa[Ctx.kill] using h)
    simp[Builtin.firstCells]
  .simp_all
 | some g =>
  rw[hG] at h5;obtain⟨A,o,b,el,fz,h6,rfl,W,h8,h9,h10⟩:=h5;rcases D with hb'|⟨g',arr',el',fz',hg,h11,h12,h13,hL⟩
  .simp_all
  rw [hG] at hg;cases hg;rw[h6] at h11;cases h11;have M:∀x∈es.drop off,x.length=(T e).size:=λx U=>by
   obtain⟨j,hj⟩:=eh.1 (mf U);exact(hL.at_ hj).1
  obtain⟨ovs,ho1,ho2,ho3⟩:=(hL.drop off).vals;have N:(es.drop off).length=len:=by simp;omega
  by_cases O:len+news.length<=A
  ·
   have hnv:=q.length_flatten B;have hes:es.length*(T e).size=off*(T e).size+len*(T e).size:=by rw[<- ez,Z]
   have hcapm:(off+(len+news.length))*(T e).size<=(off+A)*(T e).size:=gr _ qd;have hsum:(off+(len+news.length))*(T e).size=off*(T e).size+len*(T e).size+news.length*(T e).size:=by simp only[ez];omega
   obtain ⟨_,i,z,g1,g2,_⟩:=cI I (bO I hs);have hst:∃w',(storeCells ⟨g.1,o+len*(T e).size,none⟩ nvs).run P X.w=.ok () w'/\Wrote X.w w' g.1 (g.2+es.length*(T e).size) nvs:=by
    by_cases hn0:nvs=[]
    .subst hn0;refine⟨X.w,by simp[storeCells],rfl,rfl,wP.rfl',rfl,λ_ _=>rfl,b,el,fz,b,h6,h6,rfl,λj=>?_⟩
     grind
    .have hpos:0<news.length:=by
      rcases ot news.length with h0|h0
      .simp_all
      .exact h0
     have ho:o=g.2+off*(T e).size:=by rcases W with W|W<;>omega
     obtain⟨w',k1,k2⟩:=iL (P:=P) (bl:=g.1) (off:=o+len*(T e).size) nvs 0 X.w h6 qd (λx k3 k4=>h13.at_ x qd qd) q.oneCell;grind
   obtain ⟨w',E,F⟩:=hst;have hrun:(Builtin.append_ #[t,u] ty #[.slice (some ⟨g.1,o,none⟩) len A,.slice xa news.length c]).run P X.w=.ok (.slice (some ⟨g.1,o,none⟩) (len+news.length) A) w':=by
    have hc2:=l.cells;rw[<- g2] at hc2 E;simp[Builtin.append_,run_underlying (bF I ht),run_underlying (bF I hu),sizeOf,typeInfo,g1,Builtin.lenOf,O,hc2,jW,E]
   obtain ⟨k1,k2⟩:=zC7 hi hid hG B q F (λarr2 el2 fz2 U=>by
    rw[h6] at U;cases U;have:(es.length+news.length)*(T e).size=es.length*(T e).size+news.length*(T e).size:=ez _ _ _;omega)
   have hid2:(X.put w' id (.arr (T e).size (es++news) false)).h[id]?=some (.arr (T e).size (es++news) false):=by
    simp only[Ctx.put];simp_all
   obtain ⟨k3,k4⟩:=rebase (off:=off) k2 hid2 hG qk;have p:((X.put w' id (.arr (T e).size (es++news) false)).rebase id (g.1,g.2+off*(T e).size) (T e).size ((es++news).drop off)).h=X.h.set id .dead++[.arr (T e).size (es.drop off++news) false]:=by
    simp only[Ctx.rebase,Ctx.put,List.set_set];grind
   refine⟨_,_,_,hrun,k4,k1.trans k2 k3,?_,by rw[p];exact h⟩
   refine vC (x:=.own X.h.length 0 (len+news.length)) ⟨by rw[p];simp,rfl,λk' es' ro' hh=>?_⟩
   rw[p] at hh;rw[show X.h.length=(X.h.set id .dead).length by simp,kc] at hh
   obtain⟨rfl,rfl,rfl⟩:=hh;simp only[Ctx.rebase,Ctx.put,ff,az];obtain⟨a1,e1,f1,a2,k5,k6,k7,_⟩:=F.here;grind
  ·
   apply fin;refine oP (X:=X.kill id) (olds:=es.drop off) (ovs:=ovs) I C ht hs M B ho1 q N rfl ?_ l qd hb hm hu (by rw[J];exact h);by_cases hl0:len=0
   .subst hl0;have hov0:ovs=[]:=j0 (by rw[ho2,N,me]);subst hov0;simp[Builtin.firstCells,loadCells,loadCellsFrom]
   .have ho:o=g.2+off*(T e).size:=by rcases W with W|W<;>omega
    subst ho;exact run_firstCells_some X.w.drew (T e).size len ⟨g.1,g.2+off*(T e).size,none⟩ len A ovs (by rw[ho2,N]) λj v hj=>by
     rw[jW];exact ho3 j v hj
theorem zAr(I:bQ P T)(hi:HInv X){dst src:DV}{vs:Value}{ty:TypeId}(hd:bH X dst vd)(hsr:bH X src vs)(h:DQ T t u dst src X.h K):
  Val X K ((Builtin.append_ #[t,u] ty #[vd,vs]).run P X.w):=by
 unfold DQ at h;split at h
 .rename_i e e' news U J hes;obtain⟨rfl,hs0,l,h⟩:=h;have W:(T e).size≠0:=qd
  obtain⟨xa,c,nvs,rfl,p,hxa,hxc⟩:=AM hi hsr hes;have b:Src P (T e).size u (.slice xa news.length c) news.length nvs X.w:=zOt I J rfl p l hxa hxc;split at h
  .obtain ⟨A,B,h⟩:=h;simp only[bH,cJ,dO] at hd;subst hd;by_cases h0:news.length=0
   .rw[h0] at b h ⊢;have:=j0 h0;subst this;exact DE I hi U W J b h
   .refine oP (olds:=[]) (ovs:=[]) I hi U W (λx hx=>by cases hx) l True.intro p rfl rfl ?_ b qd (by simpa using A) (by simpa using B) J (by simpa using h)
    simp[Builtin.firstCells]
  .rename_i k es;obtain⟨rfl,h0,A,B,h⟩:=h;obtain⟨ad,rfl,hL⟩:=hd;rcases hL with rfl|⟨bl,off,rfl,hS,hL⟩
   .refine oP (olds:=[]) (ovs:=[]) I hi U W (λx hx=>by cases hx) l True.intro p rfl rfl ?_ b (by simp only[da];omega) (by simpa using A) (by simpa using B) J (by simpa using h)
    cases ad<;>simp[Builtin.firstCells,loadCells,loadCellsFrom]
   .have Z:∀x∈es,x.length=(T e).size:=λx hx=>by
     obtain⟨j,hj⟩:=eh.1 hx;exact(hL.at_ hj).1
    obtain ⟨ovs,ho1,ho2,ho3⟩:=hL.vals;refine oP (olds:=es) (ovs:=ovs) I hi U W Z l ho1 p rfl rfl ?_ b qd A B J h;exact run_firstCells_some X.w.drew (T e).size es.length ⟨bl,off,none⟩ es.length es.length ovs ho2 λj v hj=>by
     rw[jW];exact ho3 j v hj
  .rename_i id off len;split at h
   .rename_i k es hid;cases hsm:zCQ src id
    .rw[hsm] at h;obtain⟨rfl,C,A,B,h⟩:=h;exact pZ I hi U J W hd hid l p b C A B h
    .rw [hsm] at h;obtain⟨rfl,C,A,B,h⟩:=h;have M:=hi.blk id _ hid;have hlt:=aR hid;have hd0:=hd;obtain⟨_,hone,h3⟩:=hd;obtain⟨h4,h5⟩:=h3 _ _ _ hid;simp only[fI] at M;have htl:((es.drop off).take len).length=len:=by simp;omega
     have q:(X.h.set id .dead).length=X.h.length:=ql
     have N:∀x y:DB,(X.h.set id .dead++[x]).set X.h.length .dead++[y]=X.h.set id .dead++[.dead,y]:=λx y=>by
      rw[<- q,lr _ _ (bg _),jg,i7,gf];rfl
     cases hG:X.G id with
     | none =>
      rw[hG] at h5;simp only at h5;rcases M with hb'|⟨g',_,_,_,hg,_⟩
      .obtain ⟨_,rfl⟩:=hb';simp only[da] at C;have hoff:off=0:=qd
       have hlen:len=0:=qd
       subst hoff;subst hlen;subst h5;have hik:=hi.kill id;obtain⟨v1,v2⟩:=virt hik (T e).size;have hdv:bH ((X.kill id).virt (T e).size) (.c (.own X.h.length 0 0)) (.slice none 0 0):=by
        have:=kT (X:=X.kill id) (k:=(T e).size) (v:=.slice none 0 0) (by simp[cJ,dO]);rw[show (X.kill id).h.length=X.h.length from q] at this
        exact this
       obtain ⟨v,d,X',g1,g2,g3,g4,g5⟩:=pZ (X:=(X.kill id).virt (T e).size) (K:=K) (es:=[]) (ty:=ty) I v2 U J W hdv (by
        show (X.h.set id .dead++[_])[X.h.length]? = _
        rw [<- q,kc]) l p b rfl A B (by
         have hl2:((X.kill id).virt (T e).size).h.length=X.h.length+1:=by simp[Ctx.virt,Ctx.kill]
         rw[hl2];show K _ ((X.h.set id .dead++[_]).set X.h.length .dead++[_])
         rw[N];simpa using h)
       exact⟨v,d,X',g1,g2,(Step.kill hi id).trans hik (v1.trans v2 g3),g4,g5⟩
      .rw[hG] at hg;cases hg
     | some g =>
      obtain⟨k1,k2⟩:=QX (off:=off) (len:=len) hi hid hG C;rw[hG] at h5;obtain⟨D,o,E,el,fz,h6,rfl,h7,h8,h9,h10⟩:=h5;have F:(X.rebase id (g.1,g.2+off*(T e).size) (T e).size ((es.drop off).take len)).h=X.h.set id .dead++[.arr (T e).size ((es.drop off).take len) false]:=rfl
      have O:(X.rebase id (g.1,g.2+off*(T e).size) (T e).size ((es.drop off).take len)).h[X.h.length]?=some (.arr (T e).size ((es.drop off).take len) false):=by
       rw[F,<- q,kc]
      obtain ⟨v,d,X',g1,g2,g3,g4,g5⟩:=pZ (X:=X.rebase id (g.1,g.2+off*(T e).size) (T e).size ((es.drop off).take len)) (K:=K) (ty:=ty) I k2 U J W (id:=X.h.length) (off:=0) (len:=len) (vd:=.slice (some ⟨g.1,o,none⟩) len D) ⟨by rw[F];simp,rfl,λk' es' ro' hh=>by
        rw[O] at hh;simp only[b0,DB.arr.injEq] at hh;obtain⟨rfl,rfl,rfl⟩:=hh;refine⟨by rw[htl];omega,?_⟩
        simp only[Ctx.rebase,az];refine⟨D,o,E,el,fz,h6,rfl,?_,h8,h9,?_⟩
        .rcases h7 with h7|h7
         .exact .inl h7
         .right;rw[h7];simp
        .have:(off+D)*(T e).size=off*(T e).size+D*(T e).size:=ez _ _ _;simp only[fm];omega⟩ O l p b (by rw[htl];omega) A B (by
        have hl2:(X.rebase id (g.1,g.2+off*(T e).size) (T e).size ((es.drop off).take len)).h.length=X.h.length+1:=by rw[F];simp
        rw[hl2,F,N,j9];exact h)
      exact⟨v,d,X',g1,g2,k1.trans k2 g3,g4,g5⟩
   .exact h.elim
  .exact h.elim
 .exact h.elim
end app
section comp
variable {P:Program}{T:Tab}{X:Ctx}{K:Bd}
theorem lP{α:Type}(z:List α)(n j:Nat)(h:j<n*z.length):(List.replicate n z).flatten[j]?=z[j % z.length]? := by
 have b:0<z.length:=by grind
 have g:j / z.length<n:=(Nat.div_lt_iff_lt_mul b).2 h;have:=oX (k:=z.length) (es:=List.replicate n z) (j:=j / z.length) (c:=j % z.length) (e:=z) (λe l=>by rw[(lf.1 l).2]) (by rw[List.getElem?_replicate,aw g]) (Nat.mod_lt _ b)
 grind [Nat.div_add_mod]
theorem wrap_i64{n:Int}(h1:-9223372036854775808<=n)(b:n<=9223372036854775807):IntKind.i64.wrap n=n:=qy
theorem ar(x:Int)(h:-9223372036854775808<=x+1:=by omega)(k:x+1<=9223372036854775807:=by omega):IntKind.i64.wrap (x+1)=x+1:=wrap_i64 h k
theorem zGa(D:bQ P T)(hi:HInv X){t:Nat}{l c:DV}{O vc:Value}(hl:bH X l O)(hc:bH X c vc)(h:zF9 T t l c X.h K):Val X K ((Instr.makeSlice t O vc).run P X.w):=by
 unfold zF9 at h;split at h
 .rename_i e n m U;obtain⟨h0,h1,h2,h3,W,h5,h⟩:=h;subst hl;subst hc;have hs:(T e).size≠0:=qd
  obtain ⟨_,i,z,Z,g2,g3,g4,g5,g6,g7,g8⟩:=cI D (bO D hs);have E:z.cells.size=(T e).size:=by
   have:=congrArg List.length g5;grind
  have wn:IntKind.i64.wrap n=n:=wrap_i64 qd qd;have wm:IntKind.i64.wrap m=m:=wrap_i64 qd qd;have hbm:(i.bytes:Int)*m<=140737488355328:=by rw[g3,Int.mul_comm];exact h3
  have F:0<m.toNat*(T e).size∨m.toNat=0:=by
   rcases ot m.toNat with hm|hm
   .omega
   .exact .inl (Nat.mul_pos hm W)
  have A:=Grew.alloc X.w (.cells ((Array.range (m.toNat*(T e).size)).map λj=>(if m.toNat*(T e).size=0 then #[] else z.cells)[j % (if m.toNat*(T e).size=0 then #[] else z.cells).size]!) e)
  have B:(Instr.makeSlice t (.int .i64 n) (.int .i64 m)).run P X.w=.ok (.slice (some ⟨X.w.heap.size,0,none⟩) n.toNat m.toNat)
    (X.w.alloc (.cells ((Array.range (m.toNat*(T e).size)).map λj=>(if m.toNat*(T e).size=0 then #[] else z.cells)[j % (if m.toNat*(T e).size=0 then #[] else z.cells).size]!) e)):=by
   have q1:¬ m<0:=qd
   have q2:¬ 281474976710656<(i.bytes:Int)*m:=qd
   have q3:¬ n<0:=qd
   have q4:¬ m<n:=qd
   by_cases q5:m.toNat*i.size=0
   .rw[<- g2];simp[Instr.makeSlice,run_underlying (bF D U),asInt,asIntOf,typeInfo,Z,wn,wm,q1,q2,q3,q4,sizeOf,q5,newRow]
   .rw[<- g2];simp[Instr.makeSlice,run_underlying (bF D U),asInt,asIntOf,typeInfo,Z,wn,wm,q1,q2,q3,q4,sizeOf,q5,newRow,zeroValue,g4]
  have G:bV X.w X.S (List.replicate n.toNat (T e).zero).flatten (List.replicate n.toNat z.cells.toList).flatten:=by
   have I:bV X.w X.S (T e).zero z.cells.toList:=kE g5;have:∀q:Nat,bV X.w X.S (List.replicate q (T e).zero).flatten (List.replicate q z.cells.toList).flatten:=by
    intro q
    induction q with
    | zero=>exact True.intro
    | succ q ih=>simpa[List.replicate_succ] using I.append ih
   exact this _
  have g:z.cells.toList.length=(T e).size:=by simpa using E
  obtain ⟨k1,k2⟩:=vZ (k:=(T e).size) (es:=List.replicate n.toNat (T e).zero) (vs:=(List.replicate n.toNat z.cells.toList).flatten) hi A (λx J=>by rw[(lf.1 J).2];exact h5) G (λj v C=>by
    have p:=aR C;rw[gG (k:=(T e).size) (λx J=>by rw[(lf.1 J).2];exact g),lz] at p
    have M:j<m.toNat*(T e).size:=iv p (gr _ qd);rw[lP z.cells.toList n.toNat j (by rw[g];exact p)] at C;rw[g] at C;have N:m.toNat*(T e).size≠0:=qd
    simp only[au N,Array.getElem?_map,Array.getElem?_range,aw M,nf,b0];rw[E];have b:j % (T e).size<z.cells.size:=by rw[E];exact Nat.mod_lt _ W
    rw[nq z.cells _ b];rw[jl,iz b] at C;exact fx C) (by simp;exact gr _ qd) (wM.zero _ _ _)
  exact⟨_,_,_,B,k2,k1,wC (k:=(T e).size) (es:=List.replicate n.toNat (T e).zero) A ql qd ra ql,h⟩
 .simp_all
theorem oO(z:Array Value)(n:Nat):(Builtin.zeroCells z n).toList=(List.replicate n z.toList).flatten:=by
 apply ir;have b:((List.replicate n z.toList).flatten).length=n*z.size:=qw
 grind [lP,Builtin.zeroCells]
theorem zDo(I:bQ P T)(hi:HInv X){t:Nat}{x:DV}{v:Value}{ty:TypeId}(A:bH X x v)(h:TL T t x X.h K):Val X K ((Builtin.clear_ #[t] ty #[v]).run P X.w):=by
 unfold TL at h;split at h
 .rename_i e id off len hk;split at h
  .rename_i k es hid;obtain⟨h4,rfl,B,h⟩:=h;have hs:(T e).size≠0:=qd
   obtain ⟨_,i,z,g1,g2,g3,J,g5,g6,g7,g8⟩:=cI I (bO I hs);have hz:z.cells.size=(T e).size:=by
    have:=congrArg List.length g5;grind
   have C:bV X.w X.S (T e).zero z.cells.toList:=kE g5;have M:(T e).zero.length=(T e).size:=by rw[C.length];simpa using hz
   obtain ⟨D,hone,h3⟩:=A;obtain⟨h5,h6⟩:=h3 _ _ _ hid;have e0:len=0->X.h.set id (.arr (T e).size (es.take off++(List.replicate len (T e).zero++es.drop (off+len))) false)=X.h:=by
    rintro rfl;rw[List.replicate_zero,e9,je,jv];exact(bz.1 hid).elim λD he=>by rw[<- he];exact kj D
   have fin0:len=0->∀(p:Option Addr) (b:Nat),v=.slice p 0 b->Val X K ((Builtin.clear_ #[t] ty #[v]).run P X.w):=by
    rintro O p b rfl;refine⟨.tuple #[],.tup [],X,?_,hi,Step.refl hi,⟨[],rfl,True.intro⟩,by rw[e0 O] at h;exact h⟩
    cases p<;>simp[Builtin.clear_,run_underlying (bF I hk)]
   cases U:X.G id with
   | none =>
    have l:=hi.blk id _ hid;have hes:es=[]:=by
     rcases l with l|⟨g,_,_,_,l,_⟩
     .exact l.2
     .grind
    grind
   | some g =>
    rw[U] at h6;obtain⟨b,o,N,el,fz,k1,k2,W,k4,k5,k6⟩:=h6;by_cases hl0:len=0
    .grind
    .have Z:o=g.2+off*(T e).size:=by rcases W with W|W<;>omega
     have l:=hi.blk id _ hid;rcases l with l|⟨g',arr',el',fz',b1,b2,b3,b4,b5⟩
     .grind
     rw [U] at b1;cases b1;rw[k1] at b2;cases b2;have E:∀q:Nat,bV X.w X.S (List.replicate q (T e).zero).flatten (List.replicate q z.cells.toList).flatten:=by
      intro q
      induction q with
      | zero=>exact True.intro
      | succ q ih=>simpa[List.replicate_succ] using C.append ih
     have hnl:∀x∈List.replicate len (T e).zero,x.length=(T e).size:=λx A=>by rw[(lf.1 A).2];exact M
     have F:((List.replicate len z.cells.toList).flatten).length=len*(T e).size:=by
      rw[gG (k:=(T e).size) (λx A=>by rw[(lf.1 A).2];simpa using hz),lz]
     have hlm:(off+len)*(T e).size<=es.length*(T e).size:=gr _ B;have hlm2:(off+len)*(T e).size=off*(T e).size+len*(T e).size:=ez _ _ _;obtain⟨w',w1,w2⟩:=iL (P:=P) (bl:=g.1) (off:=o) ((List.replicate len z.cells.toList).flatten) 0 X.w k1 (by rw[F];omega) (λx q1 q2=>b4.at_ x qd (by rw[F] at q2;omega)) (E len).oneCell;rw[je,Z] at w2;rw[Z] at w1;obtain⟨s1,s2⟩:=zKx (lo:=off) (news:=List.replicate len (T e).zero) hi hid U (by rw[lz];exact B) hnl (E len) w2;rw[lz] at s1 s2;subst k2;refine⟨.tuple #[],.tup [],_,?_,s2,s1,⟨[],rfl,True.intro⟩,h⟩;rw[Z];simp[Builtin.clear_,run_underlying (bF I hk),zeroValue,typeInfo,g1,J,oO,w1,Ctx.put]
  .exact h.elim
 .simp_all
theorem EM:∀(b:Bb) (cs:Array Value) (off i:Nat),off+i+b.length<=cs.size ->
  (b.zipIdx i).foldl (λcs (c,j)=>cs.setIfInBounds (off+j) c) cs=(splice cs.toList (off+i) b).toArray
 | [],cs,off,i,_=>by simp[splice]
 | y::b,cs,off,i,h=>by
  simp only[bw] at h;simp only[po,gx];rw[EM b (cs.setIfInBounds (off+i) y) off (i+1) qk]
  congr 1
  apply ir;grind [pM]
theorem bP.splice{cells l:Bf}{vs p:Bb}{off:Nat}(h:bP X cells vs)(k:bP X l p)(b:off+l.length<=cells.length):bP X (splice cells off l) (splice vs off p):=by
 have q:=h.length;have A:=k.length;refine bP.mk (by rw[jS _ _ _ b,jS _ _ _ qd];exact q) λj c v g B=>?_;rw[pM _ _ _ b] at g;rw[pM _ _ _ qd] at B;rw[A] at g;split at g
 .rename_i C;obtain⟨D,E,F⟩:=k.at_ g;simp_all
 .rename_i C;obtain⟨D,E,F⟩:=h.at_ g;simp_all
def nS(X:Ctx):List (Nat × DV)->List (Nat × Value)->Prop
 | [],[]=>True
 | (i,d)::b,(j,v)::g=>i=j/\bH X d v/\nS X b g
 | _,_=>False
theorem DW{l placeV:Nat->Option (Nat × Nat)}(C:∀i x,l i=some x->placeV i=some x):∀{parts:List (Nat × DV)} {g:List (Nat × Value)} {cells b:Bf} {vs:Bb},
  nS X parts g->bP X cells vs->BJ T l cells parts=some b->∃p,Instr.fill placeV vs.toArray g=some (List.toArray p)/\bP X b p
 | [],[],cells,b,vs,_,q,h=>by
  simp only[BJ,b0] at h;subst h;exact⟨vs,rfl,q⟩
 | (i,d)::parts,(j,v)::g,cells,b,vs,A,q,h=>by
  obtain⟨rfl,E,A⟩:=A;simp only[BJ] at h;split at h
  .rename_i B size O F G;split at h
   .rename_i I;have D:=tJ E G;have J:=D.length;have M:=q.length;obtain⟨p,U,W⟩:=DW C A (q.splice D qd) h;simp only[Instr.fill,C _ _ F];have N:v.cells.size=v.cells.toList.length:=ql
    have:=EM v.cells.toList vs.toArray B 0 qk;grind [Array.toList_zipIdx]
   .cases h
  .cases h
 | [],_::_,_,_,_,h,_,_=>h.elim
 | _::_,[],_,_,_,h,_,_=>h.elim
theorem yE{α β:Type}{f:α->Sem β}{g:α->β}{w:World}:∀(l:List α),(∀x∈l,(f x).run P w=.ok (g x) w)->(l.mapM f).run P w=.ok (l.map g) w
 | [],_=>by simp
 | x::l,h=>by
  rw[mb];simp only[Sem.run_bind,h x ql,Result.andThen_ok,yE l (λy b=>h y (by simp[b])),Sem.run_pure,dt]
theorem zDn(l:bQ P T)(hi:HInv X){t:Nat}{parts:List (Nat × DV)}{b:Array (Nat × Value)}(O:nS X parts b.toList)(h:zFU T t parts λd=>K d X.h):Val X K ((Instr.build t b).run P X.w):=by
 unfold zFU at h;split at h
 .rename_i fs A;obtain⟨E,h⟩:=h;obtain⟨_,i,z,U,g2,g3,W,F,g6,g7,g8⟩:=cI l (t:=t) (by rw[A];simp);obtain⟨fields,hu,Z⟩:=pQ l A;split at h
  .rename_i cells G;have I:bP X ((T t).zero.map .p) z.cells.toList:=bP.of_ps (kE F);have B:(fields.mapM λf=>do pure (f.offset,<- sizeOf f.type):Sem _).run P X.w=.ok (fields.map λf=>(f.offset,(T f.type).size)) X.w:=by
    rw [Array.mapM_eq_mapM_toList];simp only[Sem.run_map];rw[yE (g:=λf=>(f.offset,(T f.type).size)) fields.toList λf J=>by
     have:(T f.type).size≠0:=E (f.type,f.offset) (by rw[<- Z];exact cg.2 ⟨f,J,rfl⟩);simp[fB l (bO l this)]]
    simp only[Result.andThen_ok]
    congr 1
    apply jf;simp
   obtain ⟨q,D,C⟩:=DW (T:=T) (placeV:=λj=>(fields.map λf=>(f.offset,(T f.type).size))[j]?) (λj x M=>by
    obtain⟨f,D,C⟩:=du.1 M;rw[<- Z,dv] at D;obtain⟨fd,h3,h4⟩:=du.1 D;subst h4;subst C;rw[Array.getElem?_map];have:fields[j]?=some fd:=qw
    rw[this];rfl) O I G
   refine Val.same hi (v:=.agg q.toArray) ?_ (LW C) h;simp_all[Instr.build,zeroValue,typeInfo,run_underlying]
  .exact h.elim
 .rename_i n e A;obtain⟨N,h⟩:=h;obtain⟨_,i,z,U,g2,g3,W,F,g6,g7,g8⟩:=cI l (t:=t) (by rw[A];simp);split at h
  .rename_i cells G;have I:bP X ((T t).zero.map .p) z.cells.toList:=bP.of_ps (kE F);obtain⟨q,D,C⟩:=DW (T:=T) (placeV:=λj=>some (j*(T e).size,(T e).size)) (λj x M=>M) O I G;refine Val.same hi (v:=.agg q.toArray) ?_ (LW C) h;simp only[Instr.build,Sem.run_bind,zeroValue,typeInfo,Sem.run_bind,run_program,Result.andThen_ok,U,Sem.run_pure,W,run_underlying (sZ l A),fB l (bO l N)];simp_all
  .exact h.elim
 .simp_all
end comp
section all
variable {P:Program}{T:Tab}{X:Ctx}{K:Bd}
theorem KF{size:Nat}:∀(b:List (Nat × Value)) (a:Nat) (cells:Bb),(∀p∈b,p.2.cells.size=size)->b.map (·.1)=List.range' a b.length->(a+b.length)*size<=cells.length ->
  Instr.fill (λi=>some (i*size,size)) cells.toArray b=some (cells.take (a*size)++(b.map λp=>p.2.cells.toList).flatten++cells.drop ((a+b.length)*size)).toArray
 | [],a,cells,_,_,_=>by simp[Instr.fill]
 | (i,v)::b,a,cells,l,g,B=>by
  simp only[dt,bw,List.range'_succ,fk] at g;obtain⟨rfl,g⟩:=g;have q:=l (i,v) ql;simp only at q;have A:(i+1+b.length)*size=(i+(b.length+1))*size:=by congr 1;omega
  have C:(i+1)*size<=(i+(b.length+1))*size:=gr _ qd;have D:(i+1)*size=i*size+size:=by rw[ez,iy]
  simp only[bw] at B;simp only[Instr.fill];rw[au qk];have:=EM v.cells.toList cells.toArray (i*size) 0 qk;rw[<- Array.foldl_toList,Array.toList_zipIdx,this];rw[KF b (i+1) _ (λp E=>l p (by simp[E])) g (by rw[jS _ _ _ qk];show _<=cells.length;omega)];have F:v.cells.toList.length=size:=by simpa using q
  have G:List.take ((i+1)*size) (splice cells.toArray.toList (i*size) v.cells.toList)=List.take (i*size) cells++v.cells.toList:=by
   unfold splice;rw[List.take_append_of_le_length qk,bu qk]
  have I:List.drop ((i+1+b.length)*size) (splice cells.toArray.toList (i*size) v.cells.toList)=List.drop ((i+(b.length+1))*size) cells:=by
   apply ir;intro j;rw[gu,gu,pM _ _ _ qk,au (by rw[A];omega),A]
  simp_all
theorem eC.cellss:∀{ds:Bi} {vs:Bb} {cs:List Bf},eC X ds vs->cellss ds=some cs->cs.length=vs.length/\∀(j:Nat) (c:Bf) (v:Value),cs[j]?=some c->vs[j]?=some v->bP X c v.cells.toList
 | [],[],cs,_,h=>by
  simp only[Dm.cellss,b0] at h;subst h;simp_all
 | d::ds,v::vs,cs,b,h=>by
  simp only[Dm.cellss] at h;split at h
  .rename_i c p q A;simp only[b0] at h;subst h;obtain⟨B,C⟩:=eC.cellss b.2 A;refine⟨by simp[B],λj D E g l=>?_⟩
   cases j with
   | zero=>simp only[eu,b0] at g l;subst g;subst l;exact tJ b.1 q
   | succ j=>grind
  .cases h
 | [],_::_,_,h,_=>h.elim
 | _::_,[],_,h,_=>h.elim
theorem zCF{X':Ctx}(hi:HInv X)(b:Step X X')(g:X'.w=X.w):∀{cs:List Bf} {vs:Bb} {es:Bc},cs.length=vs.length->(∀(j:Nat) (c:Bf) (v:Value),cs[j]?=some c->vs[j]?=some v->bP X c v.cells.toList) ->
  zOm X.h cs=some es->yO X X' (zPD cs)->bV X'.w X'.S es.flatten (vs.map λv=>v.cells.toList).flatten/\es.length=vs.length
 | [],[],es,_,_,h,_=>by simp only[zOm,b0] at h;subst h;exact⟨True.intro,rfl⟩
 | c::cs,v::vs,es,q,l,h,p=>by
  simp only[zOm] at h;split at h
  .rename_i x M A B;simp only[b0] at h;subst h;have C:=GF hi b g (l 0 c v rfl rfl) A (p.sub λid h=>by simp[zPD,h])
   obtain⟨D,E⟩:=zCF hi b g (cs:=cs) (vs:=vs) (by simpa using q) (λj F G I J=>l (j+1) F G (by simpa using I) (by simpa using J)) B (p.sub λid h=>by simp[zPD,h])
   exact⟨by simpa using C.append D,by simp[E]⟩
  .cases h
 | [],_::_,_,h,_,_,_=>by simp at h
 | _::_,[],_,h,_,_,_=>by simp at h
theorem nS.split:∀{ps:List (Nat × DV)} {vs:List (Nat × Value)},nS X ps vs->ps.map (·.1)=vs.map (·.1)/\eC X (ps.map (·.2)) (vs.map (·.2))
 | [],[],_=>⟨rfl,True.intro⟩
 | (i,d)::ps,(j,v)::vs,h=>by
  obtain⟨rfl,b,g⟩:=h;obtain⟨l,p⟩:=nS.split g;exact⟨by simp[l],b,p⟩
 | [],_::_,h=>h.elim
 | _::_,[],h=>h.elim
theorem zAt(Z:bQ P T)(hi:HInv X){t len:Nat}{parts:List (Nat × DV)}{b:Array (Nat × Value)}(hp:nS X parts b.toList)(h:DT T t len parts X.h K):Val X K ((Instr.buildSlice t len b).run P X.w):=by
 unfold DT at h;split at h
 .rename_i e hk;obtain⟨hs0,hzl,hbig,l,h⟩:=h;have hs:(T e).size≠0:=qd
  split at h
  .rename_i cs hcs;split at h
   .rename_i es hes;obtain⟨G,h⟩:=h;obtain⟨_,i,z,g1,g2,g3,g4,g5,g6,g7,g8⟩:=cI Z (bO Z hs);obtain⟨I,hp2⟩:=hp.split;obtain⟨h1,h2⟩:=eC.cellss hp2 hcs;obtain⟨C,hw,hh,hG,J,M,hfx⟩:=kF (zPD cs) hi;obtain⟨h3,h4⟩:=zCF hi J hw h1 h2 hes hfx;have hn:b.size=len:=by
     have:=congrArg List.length (I.symm.trans l);grind
    have A:es.length=len:=by rw[h4];simp[hn]
    have D:∀p∈b.toList,p.2.cells.size=(T e).size:=by
     intro p hpm;obtain⟨j,hj⟩:=eh.1 hpm;have hjl:=aR hj;have hv:(b.toList.map (·.2))[j]?=some p.2:=by rw[dv,hj];rfl
     have hcj:∃c,cs[j]?=some c:=⟨_,ay (by rw[h1];simpa using hjl)⟩;obtain⟨c,hc⟩:=hcj;have h5:=(h2 j c p.2 hc hv).length;have:∀(cs:List Bf) (es:Bc) (j:Nat) (c:Bf),zOm X.h cs=some es->cs[j]?=some c->∃x,es[j]?=some x/\pvs X.h c=some x:=by
      intro cs
      induction cs with
      | nil=>grind
      | cons a cs ih =>
       intro es j c hp hc;simp only[zOm] at hp;grind
     have:∀(c:Bf) (x:List PV),pvs X.h c=some x->c.length=x.length:=by
      intro c
      induction c with
      | nil=>intro x hx;simp only[pvs,b0] at hx;subst hx;rfl
      | cons a c ih =>
       intro x hx;simp only[pvs] at hx;grind
     grind
    have N:(Instr.buildSlice t len b).run P X.w=.ok (.slice (some ⟨X.w.heap.size,0,none⟩) len len) (X.w.alloc (.cells (b.toList.map λp=>p.2.cells.toList).flatten.toArray e)):=by
     have E:¬ 16777216<len*i.size:=by rw[g2];omega
     have g:=KF (size:=(T e).size) b.toList 0 (((Array.range (len*(T e).size)).map λj=>(if len*(T e).size=0 then #[] else z.cells)[j % (if len*(T e).size=0 then #[] else z.cells).size]!).toList) D
      (by rw[<- I,l];simp[hn,List.range_eq_range']) (by simp[hn])
     have F:((0+b.toList.length)*(T e).size)=len*(T e).size:=by simp[hn]
     rw[F,cw ql] at g;by_cases q:len*(T e).size=0
     .rw[<- g2] at q g;simp only[q,az] at g;simp only[Instr.buildSlice,Sem.run_bind,run_underlying (bF Z hk),Result.andThen_ok,sizeOf,typeInfo,Sem.run_bind,run_program,g1,Sem.run_pure,q];simp at g ⊢;have hr0:((Array.range 0).map λ_=>(default:Value)) = #[]:=by apply jf;simp
      simp[hr0,g,newRow]
     .rw[<- g2] at q g;simp only[au q,Array.toArray_toList] at g;simp[Instr.buildSlice,run_underlying (bF Z hk),sizeOf,typeInfo,g1,E,q,zeroValue,g4,g,newRow]
    have O:Grew C.w (X.w.alloc (.cells (b.toList.map λp=>p.2.cells.toList).flatten.toArray e)) (.cells (b.toList.map λp=>p.2.cells.toList).flatten.toArray e (0,0)):=by
     rw[hw];exact Grew.alloc _ _
    have U:bV C.w C.S es.flatten (b.toList.map λp=>p.2.cells.toList).flatten:=by
     rw[List.map_map] at h3;exact h3
    have W:=U.length_flatten G;have hlen1:C.h.length=X.h.length:=by rw[hh,vN]
    obtain⟨k1,k2⟩:=vZ (k:=(T e).size) M O G U (λj v hj=>by simpa using hj) (by simp only[jz];omega) (wM.zero _ _ _)
    have B:=wC (X:=C) (k:=(T e).size) (es:=es) (n:=len) (cap:=len) O qd (bg _) (by unfold maxLen;have:=Nat.le_mul_of_pos_right len hs0;omega) (by simp only[jz];rw[W,A];exact bg _);rw[show C.w.heap.size=X.w.heap.size by rw[hw]] at B
    refine⟨_,_,_,N,k2,J.trans M k1,B,?_⟩;show K _ (C.h++_);grind
   .exact h.elim
  .exact h.elim
 .simp_all
end all
section maps
variable {P:Program}{T:Tab}{X:Ctx}{K:Bd}
variable {z x:PV}{es es':List (Int × PV)}{n:Int}{w:World}{S:Nat->Prop}{t c:Nat}{ms:List MapEntry}{m:MapEntry}{vm vx:Value}
theorem PN: ∀{es:List (Int × PV)} {n:Int},zE3 es n=true↔n∈es.map (·.1)
 | [],_=>by simp[zE3]
 | e::es,n=>by
  simp only[zE3,dt,bx];split
  .simp_all
  .rename_i h;rw[PN];grind
theorem QD: ∀{es:List (Int × PV)} {n:Int},n ∉ es.map (·.1)->rI es n z=z
 | [],_,_=>rfl
 | e::es,n,h=>by
  simp only[dt,bx,jo] at h;simp only[rI];rw[au (λe'=>h.1 e'.symm)];exact QD h.2
theorem FF: ∀{es:List (Int × PV)} {n:Int},(es.map (·.1)).Nodup->(n,x)∈es->rI es n z=x
 | [],_,_,h=>by cases h
 | e::es,n,g,h=>by
  have b:=ja.1 g;simp only[rI];rcases bx.1 h with rfl|h
  .simp_all
  .rw[au (λe'=>b.1 (cg.2 ⟨(n,x),h,e'.symm⟩))];exact FF b.2 h
theorem zIJ(h:es'.Perm es)(n:Int):zE3 es' n=zE3 es n:=by
 rw[gi,PN,PN];grind
theorem FZ(h:es'.Perm es)(b:(es'.map (·.1)).Nodup):(es.map (·.1)).Nodup:=(h.map _).nodup_iff.1 b
theorem zEb(h:es'.Perm es)(g:(es'.map (·.1)).Nodup)(n:Int)(z:PV):rI es' n z=rI es n z:=by
 by_cases b:n∈es'.map (·.1)
 .obtain⟨e,l,rfl⟩:=cg.1 b;rw[FF g (x:=e.2) l,FF (FZ h g) (x:=e.2) (h.mem_iff.1 l)]
 .rw[QD b,QD (λp=>b ((h.map _).mem_iff.2 p))]
theorem qU: ∀{es:List (Int × PV)},(es.map (·.1)).Nodup->(MP es n x).Perm ((n,x)::es.filter λe=>!(e.1==n))
 | [],_=>List.Perm.refl _
 | e::es,l=>by
  have g:=ja.1 l;simp only[MP,fc];by_cases b:e.1=n
  .rw[aw b,au (by simp[b])];rw[fw.2];grind
  .rw[au b,aw (by simpa using b)];exact(List.Perm.cons _ (qU g.2)).trans (List.Perm.swap _ _ _)
theorem zIK(h:es'.Perm es)(b:(es'.map (·.1)).Nodup)(n:Int)(x:PV):(MP es' n x).Perm (MP es n x) :=
 (qU b).trans (((h.filter _).cons _).trans (qU (FZ h b)).symm)
theorem zEN(b:(es.map (·.1)).Nodup)(n:Int)(x:PV):((MP es n x).map (·.1)).Nodup:=by
 rw[((qU (x:=x) (n:=n) b).map _).nodup_iff,dt];grind
theorem PG(z:PV):∀{es:List (Int × PV)} {ms:List MapEntry} {i:Nat},NC w S es ms ->
  (Instr.findNow (.int .i64) (.int .i64 n) ms i=some none/\zE3 es n=false/\rI es n z=z/\∀x,MP es n x=es++[(n,x)]) ∨
  ∃j m x,Instr.findNow (.int .i64) (.int .i64 n) ms i=some (some (i+j,m.val))/\ms[j]?=some m/\m.key=.int .i64 n/\es[j]?=some (n,x)/\dO w S x m.val/\zE3 es n=true/\rI es n z=x/\∀y,MP es n y=es.set j (n,y)
 | [],[],_,_=>.inl ⟨rfl,rfl,rfl,λ_=>rfl⟩
 | e::es,m::ms,i,h=>by
  obtain⟨⟨g,C⟩,D⟩:=h;by_cases b:e.1=n
  .refine .inr ⟨0,m,e.2,?_,rfl,by rw[g,b],by rw[<- b];rfl,C,by simp only[zE3];rw[aw b],by simp only[rI];rw[aw b],λy=>by simp only[MP];rw[aw b];rfl⟩
   simp only[Instr.findNow,g,Instr.sameNow,az];simp_all
  .have B:Instr.findNow (.int .i64) (.int .i64 n) (m::ms) i=Instr.findNow (.int .i64) (.int .i64 n) ms (i+1):=by
    simp only[Instr.findNow,g,Instr.sameNow,az];grind
   rcases PG z (i:=i+1) D with⟨l,p,q,A⟩|⟨j,E,x,l,p,q,A,F,G,I,J⟩
   .exact .inl ⟨B.trans l,by simp only[zE3];rw[au b];exact p,by simp only[rI];rw[au b];exact q,λy=>by simp only[MP];rw[au b,A];rfl⟩
   .exact .inr ⟨j+1,E,x,by rw[B,l];congr 3;omega,by simpa using p,q,by simpa using A,F,by simp only[zE3];rw[au b];exact G,by simp only[rI];rw[au b];exact I,λy=>by simp only[MP];rw[au b,J];rfl⟩
 | [],_::_,_,h=>h.elim
 | _::_,[],_,h=>h.elim
theorem zJV(l:bQ P T){k e:Nat}(h:(T t).k=.map k e):P.underlying t=some (.map k e):=by
 have b:=(cI l (t:=t) (by rw[h];simp)).1;rw[h] at b;cases g:P.underlying t with
 | none=>rw[g] at b;exact b.elim
 | some d=>rw[g] at b;cases d<;>simp only[kV] at b<;>(obtain⟨rfl,rfl⟩:=b;rfl)
theorem zJU(b:bQ P T)(h:zR6 (T t).k=true):P.underlying t=some (.int .i64):=by
 refine tC b ?_;unfold zR6 at h;grind
theorem zCv{k:TK}{v:Value}(h:dO w S x v):dO w S (zCu T k x) v:=by
 unfold zCu;split
 .exact dO.nilOf _ h
 .exact h
theorem eU(h:P.underlying t=some (.int .i64))(b:Bool)(n:Int)(w:World):(Instr.checkKey b 10000 t (.int .i64 n)).run P w=.ok () w:=by
 rw[Instr.checkKey];rw[Sem.run_bind,run_underlying h];rfl
theorem fO(h:P.underlying t=some (.int .i64)){r:Option (Nat × Value)}(w:World)(b:Instr.findNow (.int .i64) (.int .i64 n) ms 0=some r):(Instr.findKey t (.int .i64 n) ms).run P w=.ok r w:=by
 simp only[Instr.findKey,Sem.run_bind,run_underlying h,Result.andThen_ok,b,Sem.run_pure]
theorem zF8(I:bQ P T)(hi:HInv X){m x:DV}{ok:Bool}(U:bH X m vm)(W:bH X x vx)(h:zF7 T (T t).k X.h m x ok λd=>K d X.h):Val X K ((Instr.lookup t vm vx ok).run P X.w):=by
 unfold zF7 at h;split at h
 .rename_i kt D id n Z;split at h
  .rename_i es z N hz;obtain⟨h1,h2,h3,A⟩:=h;subst W;obtain⟨g,hg,rfl⟩:=U.2.2 _ N;have hb:=hi.blk id _ N;obtain⟨g',ms,c,O,E,⟨es',B,J,q3⟩,q4⟩:=hb;rw[hg] at O;cases O;have F:=zJV I Z;have l:=zJU I h1;rw[<- zEb B J,<- zIJ B] at A;obtain⟨_,i,zz,g1,g2,g3,g4,G,g6,g7⟩:=cI I h2;have C:(zeroValue D).run P X.w=.ok zz X.w:=by simp[zeroValue,typeInfo,g1,g4]
   have q:dO X.w X.S z zz:=by
    have g8:=(g7.2 h3);rw[hz] at G;have hc:zz.cells.toList=[zz]:=by
     cases zz<;>first|rfl|(simp[Value.oneCell'] at g8;done)
    rw[hc] at G;simp only[dt,gw,fk,jw] at G;exact kY G
   have q:=zCv (T:=T) (k:=(T D).k) q;rcases PG (zCu T (T D).k z) (i:=0) (n:=n) q3 with⟨f1,f2,f3,f4⟩|⟨j,M,y,f1,f2,f3,f4,f5,f6,f7,f8⟩
   .rw[f2,f3] at A;cases ok
    .refine Val.same hi (v:=zz) ?_ (CT q) A;simp[Instr.lookup,run_underlying F,MapKept.run_getObj_map E,eU l,fO l _ f1,C]
    .refine Val.same hi (v:=.tuple #[zz,.bool false]) (d:=.tup [.c (.p (zCu T (T D).k z)),.c (.p (.b false))]) ?_ ⟨[zz,.bool false],rfl,q,rfl,True.intro⟩ A;simp[Instr.lookup,run_underlying F,MapKept.run_getObj_map E,eU l,fO l _ f1,C]
   .rw[f6,f7] at A;cases ok
    .refine Val.same hi (v:=M.val) ?_ (CT f5) A;simp[Instr.lookup,run_underlying F,MapKept.run_getObj_map E,eU l,fO l _ f1]
    .refine Val.same hi (v:=.tuple #[M.val,.bool true]) (d:=.tup [.c (.p y),.c (.p (.b true))]) ?_ ⟨[M.val,.bool true],rfl,f5,rfl,True.intro⟩ A;simp[Instr.lookup,run_underlying F,MapKept.run_getObj_map E,eU l,fO l _ f1]
  .exact h.elim
 .simp_all
theorem zA4{b:Nat}{ms:Array MapEntry}(h:w.heap[b]?=some (.map ms c))(g:Array MapEntry)(l:Nat):
  Touched w { w with heap:=w.heap.setIfInBounds b (.map g l) } b/\(w.heap.setIfInBounds b (.map g l))[b]?=some (.map g l):=by
 have p:b<w.heap.size:=(im.1 h).1;have q:(w.heap.setIfInBounds b (.map g l))[b]?=some (.map g l):=by rw[py p]
 refine⟨⟨rfl,rfl,wP.rfl',ql,λx A=>?_,.inr ⟨_,_,_,_,h,q⟩⟩,q⟩
 grind
theorem NC.len: ∀{es:List (Int × PV)} {ms:List MapEntry},NC w S es ms->es.length=ms.length
 | [],[],_=>rfl
 | _::_,_::_,h=>by simp[NC.len h.2]
 | [],_::_,h=>h.elim
 | _::_,[],h=>h.elim
theorem NC.push(b:m.key=.int .i64 n)(g:dO w S x m.val):∀{es:List (Int × PV)} {ms:List MapEntry},NC w S es ms->NC w S (es++[(n,x)]) (ms++[m])
 | [],[],_=>⟨⟨b,g⟩,True.intro⟩
 | _::_,_::_,h=>⟨h.1,NC.push b g h.2⟩
 | [],_::_,h=>h.elim
 | _::_,[],h=>h.elim
theorem NC.setAt(b:m.key=.int .i64 n)(g:dO w S x m.val):∀{es:List (Int × PV)} {ms:List MapEntry} (j:Nat),NC w S es ms->NC w S (es.set j (n,x)) (ms.set j m)
 | [],[],_,_=>by simp only[List.set_nil];exact True.intro
 | _::_,_::_,0,h=>⟨⟨b,g⟩,h.2⟩
 | _::_,_::_,j+1,h=>⟨h.1,NC.setAt b g j h.2⟩
 | [],_::_,_,h=>h.elim
 | _::_,[],_,h=>h.elim
theorem zKp.setAt{m':MapEntry}(l:m'.born=m.born):∀{ms:List MapEntry} {c:Nat} (j:Nat),ms[j]?=some m->zKp ms c->zKp (ms.set j m') c:=by
 intro ms c j p ⟨q,A⟩;have g:(ms.set j m').map (·.born)=ms.map (·.born):=by
  apply ir;grind
 refine⟨?_,λe B=>?_⟩
 .have C:(ms.set j m').Pairwise (λa b=>a.born<b.born)↔((ms.set j m').map (·.born)).Pairwise (· < ·):=by rw[kp]
  grind
 .grind
theorem zKp.push(p:m.born=c)(h:zKp ms c):zKp (ms++[m]) (c+1):=by
 refine⟨ic.2 ⟨h.1,ky _ _,λa q b l=>?_⟩,λe g=>?_⟩
 .rw[ep] at l;subst l;rw[p];exact h.2 a q
 .rcases c9.1 g with g|g
  .exact Nat.lt_succ_of_lt (h.2 e g)
  .simp_all
theorem zGd(hT:bQ P T)(hi:HInv X){m x v:DV}{vv:Value}{K:aF->Prop}(hm:bH X m vm)(hx:bH X x vx)(hv:bH X v vv)(h:zGc T (T t).k X.h m x v K):Sto X K ((Instr.mapUpdate t vm vx vv).run P X.w):=by
 unfold zGc at h;split at h
 .rename_i kt et id n c hk;split at h
  .rename_i es y E hp;obtain⟨h1,I⟩:=h;obtain⟨l,N,hh,hG,B,p,O⟩:=kF (zHy c) hi;rw[<- hh] at E I;have C:dO l.w l.S (zCu T (T et).k y) vv:=zCv (qQ hi B N hv hp O);generalize zCu T (T et).k y=y at C I;have U:bH l (.c (.mp id)) vm:=bH.step B hm;subst hx;obtain⟨g,J,rfl⟩:=U.2.2 _ E;have hb:=p.blk id _ E;obtain⟨g',ms,W,q1,F,⟨es',Z,G,q3⟩,q4⟩:=hb;rw[J] at q1;cases q1;have hu:=zJV hT hk;have q:=zJU hT h1;have fin:∀(b:Array MapEntry) (D:Nat),NC l.w l.S (MP es' n y) b.toList->zKp b.toList D->Step X (l.put { l.w with heap:=l.w.heap.setIfInBounds g.1 (.map b D) } id (.mp (MP es n y)))/\HInv (l.put { l.w with heap:=l.w.heap.setIfInBounds g.1 (.map b D) } id (.mp (MP es n y))):=by
    intro b D hr hbn;obtain⟨ht,hbk⟩:=zA4 F b D;have M:=Step.put p E rfl rfl J ht (d:=.mp (MP es n y)) True.intro rfl;refine⟨B.trans p M,HInv.put p E rfl rfl J ht True.intro rfl ?_⟩;exact⟨g,b,D,J,hbk,⟨_,zIK Z G n y,zEN G n y,hr.kept M.kept⟩,hbn⟩
   rcases PG y (i:=0) (n:=n) q3 with⟨f1,f2,f3,f4⟩|⟨j,mm,yy,f1,f2,f3,f4,f5,f6,f7,f8⟩
   .obtain⟨p1,p2⟩:=fin (ms.push { key:=.int .i64 n,val:=vv,born:=W }) (W+1) (by rw[f4,Array.toList_push];exact q3.push rfl C) (by rw[Array.toList_push];exact q4.push rfl);refine⟨_,?_,p2,p1,I⟩;rw[<- N];simp[Instr.mapUpdate,run_underlying hu,MapKept.run_getObj_map F,eU q,fO q _ f1,MapKept.run_setObj_map _ F,Ctx.put]
   .rw [fm] at f1;have hj:ms[j]?=some mm:=by rw[<- jl];exact f2
    have A:(ms.modify j λe=>{ e with key:=.int .i64 n,val:=vv }).toList=ms.toList.set j { mm with key:=.int .i64 n,val:=vv }:=by
     apply ir;grind
    obtain ⟨p1,p2⟩:=fin (ms.modify j λe=>{ e with key:=.int .i64 n,val:=vv }) W (by rw[f8,A];exact q3.setAt rfl C j) (by rw[A];exact zKp.setAt (m:=mm) (m':={ mm with key:=.int .i64 n,val:=vv }) rfl j f2 q4);refine⟨_,?_,p2,p1,I⟩;rw[<- N];have M:(Instr.keyThatStays (.int .i64 n) (.int .i64 n)).run P l.w=.ok (.int .i64 n) l.w:=by
     simp[Instr.keyThatStays,Instr.sameBits]
    simp[Instr.mapUpdate,run_underlying hu,MapKept.run_getObj_map F,eU q,fO q _ f1,hj,f3,M,MapKept.run_setObj_map _ F,Ctx.put]
  .exact h.elim
 .simp_all
theorem zDs(hi:HInv X)(h:TX (T t).k X.h K):Val X K ((Instr.makeMap t none).run P X.w):=by
 unfold TX at h;split at h
 .have b:=Grew.alloc X.w (.map #[] 0);have g:=Step.push hi b (.mp []);refine⟨_,_,X.push _ (.mp []),?_,HInv.push hi b (db:=.mp []) ?_ rfl,g,vC (x:=.mp X.h.length) ⟨rb,rfl,λes l=>⟨(X.w.heap.size,0),rb,rfl⟩⟩,h⟩
  .simp[Instr.makeMap,Ctx.push]
  .exact⟨(X.w.heap.size,0),#[],0,rb,b.new,⟨[],List.Perm.refl _,List.nodup_nil,True.intro⟩,List.Pairwise.nil,ql⟩
 .simp_all
end maps
section all
variable {P:Program}{T:Tab}{X:Ctx}{K:Bd}
variable {t:Fr}{a:Act}{o:Oper}{next:Act->World->Prop}{Q:Exit->Act->World->Prop}{x y:DV}{X:Ctx}
theorem sQ(hρ:∀x,bH X (evD t x) (a.eval x)):∀l:List Operand,eC X (l.map (evD t)) (l.map a.eval)
 | []=>True.intro
 | x::l=>⟨hρ x,sQ hρ l⟩
theorem AY: ∀{b g:Bi} {vs l:Bb},eC X b vs->eC X g l->eC X (b++g) (vs++l)
 | [],_,[],_,_,k=>k
 | _::_,_,_::_,_,h,k=>⟨h.1,AY h.2 k⟩
 | [],_,_::_,_,h,_=>h.elim
 | _::_,_,[],_,h,_=>h.elim
theorem MA: ∀{cs:List KV} {vs:Bb},gI X cs vs->eC X (cs.map KV.toDV) vs
 | [],[],_=>True.intro
 | c::cs,v::vs,h=>⟨by cases c<;>exact h.1,MA h.2⟩
 | [],_::_,h=>h.elim
 | _::_,[],h=>h.elim
theorem sR(hρ:∀x,bH X (evD t x) (a.eval x)):∀l:List (Nat × Operand),nS X (l.map λp=>(p.1,evD t p.2)) (l.map λ(i,x)=>(i,a.eval x))
 | []=>True.intro
 | (_,x)::l=>⟨rfl,hρ x,sR hρ l⟩
theorem DJ: ∀{ds:Bi} {vs:Bb} {cap:List KV},eC X ds vs->NL ds=some cap->gI X cap vs
 | [],[],cap,_,h=>by simp only[NL,b0] at h;subst h;exact True.intro
 | d::ds,v::vs,cap,g,h=>by
  unfold NL at h;split at h
  .simp_all
  .rename_i x l b;cases b;obtain⟨c,p,rfl⟩:=du.1 h;exact⟨g.1,DJ g.2 p⟩
  .rename_i id q l b;cases b;obtain⟨c,p,rfl⟩:=du.1 h;exact⟨g.1,DJ g.2 p⟩
  .cases h
 | [],_::_,_,h,_=>h.elim
 | _::_,[],_,h,_=>h.elim
def Out(X:Ctx)(K:Bd)(o:Oper)(a:Act)(next:Act->World->Prop):Prop :=
 ∀d v X',HInv X'->Step X X'->bH X' d v->K d X'.h->next (a.put o.dst v) X'.w
theorem bT{s:Sem Value}(b:execOp a.eval o=(do pure (.value (<- s))))(g:Val X K (s.run P X.w))(l:Out X K o a next):o.wp P a X.w next Q:=by
 obtain⟨v,d,X',p,q,A,B,C⟩:=g;unfold Oper.wp;rw[b];simp only[Sem.run_bind,p,Result.andThen_ok,Sem.run_pure];exact l d v X' q A B C
theorem KD(b:BinOp)(t:TypeId)(g l:Operand){x y:Value}(w:World)(h:x.oneCell'=true)(p:x≠.nilIface):(eqGuard b t g l x y).run P w=.ok () w:=by
 unfold eqGuard;cases x<;>first
  | (simp[Value.oneCell'] at h;done)
  | exact absurd rfl p
  | simp
theorem zPv{x:PV}{v:Value}(b:(jM x).isSome=true)(h:cJ X (.p x) v):jM x=some v:=by
 simp only[cJ] at h;cases x<;>simp only[dO] at h<;>simp only[jM] at b ⊢
 all_goals first|(rw[h];done)|(cases b;done)|skip
 simp_all
theorem PH: ∀{b:List PV} {vs:Bb},b.all (λx=>(jM x).isSome)=true->bP X (b.map .p) vs->b.map jM=vs.map some
 | [],[],_,_=>rfl
 | x::b,v::vs,g,h=>by
  rw[dz,bn] at g;rw[dt,dt,zPv g.1 h.1,PH g.2 h.2]
 | [],_::_,_,h=>h.elim
 | _::_,[],_,h=>h.elim
theorem zDm{g:BinOp}{t:Nat}{vx vy:Value}{Q:PV->Prop}(b:bH X x vx)(h:TG g (T t) x y Q):vx.oneCell'=true/\vx≠.nilIface/\bH X y vy=bH X y vy:=by
 unfold TG at h;split at h<;>first
  | exact h.elim
  | (simp only[bH,cJ,dO] at b;subst b;exact⟨rfl,ql,rfl⟩)
  | (simp only[bH,cJ] at b
     split at h<;>first
      | exact h.elim
      | (obtain⟨a,n,c,rfl,_⟩:=QJ (X:=X) b h;exact⟨rfl,ql,rfl⟩))
theorem zQ7{g:FuncId}{ds:Bi}{vals:Bb}(D:(execOp a.eval o).run P X.w=(callFunc g vals.toArray).run P X.w)(hi:HInv X)(E:Gnd P X)(F:eC X ds vals)
 (G:aA P g ds X.h K)(C:Out X K o a next):o.wp P a X.w next Q:=by
 unfold Oper.wp;rw[D];rcases G X vals rfl hi E F with⟨b,l⟩|⟨v,I,b,l⟩
 .rw[b];refine l.mono λe I J=>?_;obtain⟨v,rfl,d,X',rfl,p,q,A,B⟩:=J;exact C d v X' p q A B
 .rw[b];obtain⟨d,X',rfl,p,q,A,B⟩:=l;exact C d v X' p q A B
theorem zIZ{o:BinOp}{id:Nat}{b:Bool}(h:zSx o x y=some (id,b)):∃off,x=.c (.ptr id off)/\y=.c (.p (.o (.pointer none)))/\((o=.eql/\b=false)∨(o=.neq/\b=true)):=by
 unfold zSx at h;split at h
 .cases h;exact⟨_,rfl,rfl,.inl ⟨rfl,rfl⟩⟩
 .cases h;exact⟨_,rfl,rfl,.inr ⟨rfl,rfl⟩⟩
 .cases h
theorem EB(B:bQ P T)(hi:HInv X)(gd:Gnd P X)(hρ:∀x,bH X (evD t x) (a.eval x))(h:dop P T o.op t X.h K)(p:Out X K o a next):
  o.wp P a X.w next Q:=by
 unfold dop at h;split at h
 ·
  rename_i x ho;exact bT (s:=pure (a.eval x)) qp (Val.same hi rfl (hρ x) h) p
 .rename_i x ho;exact bT (s:=pure (a.eval x)) qp (Val.same hi rfl (hρ x) h) p
 ·
  rename_i c x y ho;split at h
  .rename_i v hc;have O:=hρ c;rw[hc] at O;simp only[bH,cJ,dO] at O;refine bT (s:=do pure (if <- asBool (a.eval c) then a.eval x else a.eval y)) qp ?_ p
   cases v
   .exact Val.same hi (by simp[O,asBool]) (hρ y) (h.2 rfl)
   .exact Val.same hi (by simp[O,asBool]) (hρ x) (h.1 rfl)
  .exact h.elim
 ·
  rename_i ty ho;refine bT (s:=Instr.alloc ty true (.tuple #[])) qp ?_ p;have:(T ty).k≠.no:=by
   intro hk;rw[hk] at h;exact h
  refine zFc B hi this ?_;split at h
  .exact h.elim
  .exact h
 ·
  rename_i ty x ho;split at h
  .rename_i ys hc;exact bT (s:=Instr.box ty (a.eval x)) qp (zOP hi (hρ x) hc h) p
  .exact h.elim
 ·
  rename_i ty parts ho;refine bT (s:=Instr.build ty (parts.map λ(i,x)=>(i,a.eval x))) qp (zDn B hi ?_ h) p;rw[Array.toList_map];exact sR hρ parts.toList
 ·
  rename_i ty len parts ho;refine bT (s:=Instr.buildSlice ty len (parts.map λ(i,x)=>(i,a.eval x))) qp (zAt B hi ?_ h) p;rw[Array.toList_map];exact sR hρ parts.toList
 ·
  rename_i ty x ho;exact bT (s:=Instr.loadAt ty (a.eval x)) qp (zF6 B hi h.1 (hρ x) h.2) p
 ·
  rename_i ty x y ho;obtain⟨X',E,F,U,h4⟩:=zDx B hi (hρ x) (hρ y) h;unfold Oper.wp;have:execOp a.eval o=(do Instr.storeAt ty (a.eval x) (a.eval y);pure .skip):=qp
  rw[this];simp only[Sem.run_bind,E,Result.andThen_ok,Sem.run_pure];exact p (.tup []) undef X' F U ⟨[],rfl,True.intro⟩ h4
 ·
  rename_i x ho;have A:=hρ x;have fin:∀{d:DV},(execOp a.eval o).run P X.w=.ok (.value (a.eval x)) X.w->bH X d (a.eval x)->K d X.h->o.wp P a X.w next Q:=λC hd hk=>by
   unfold Oper.wp;rw[C];exact p _ _ X hi (Step.refl hi) hd hk
  split at h
  .rename_i id M C;split at h
   .rename_i cells hh;rw[C] at A;have N:=A;obtain⟨_,_,U⟩:=A;obtain⟨g,_,I⟩:=U _ hh;exact fin (by simp[execOp,ho,I]) N h
   .exact h.elim
  .rename_i cs C;rw[C] at A;have N:=A;obtain⟨bl,M,I,_⟩:=A;exact fin (by simp[execOp,ho,I]) N h
  .rename_i f cap C;rw[C] at A;have N:=A;obtain⟨J,I,_⟩:=A;exact fin (by simp[execOp,ho,I]) N h
  .exact h.elim
 ·
  rename_i G ty x y ty' ho;split at h
  .rename_i id b hq;obtain⟨M,e1,e2,e3⟩:=zIZ hq;unfold zRj at h;split at h
   .rename_i e c hk hh;have A:=hρ x;have hy:=hρ y;rw[e1] at A;rw[e2] at hy;obtain⟨_,_,U⟩:=A;obtain⟨g,_,I⟩:=U _ hh;have hy2:a.eval y=.pointer none:=hy.1;refine bT (s:=do eqGuard G ty x y (a.eval x) (a.eval y);binOp G ty (a.eval x) (a.eval y)) qp ?_ p
    rw[I,hy2];simp only[Sem.run_bind,KD G ty x y (x:=.pointer (some ⟨g.1,g.2+M,none⟩)) X.w rfl ql,Result.andThen_ok];have C:=RL (zQW B hk) ⟨g.1,g.2+M,none⟩ X.w;rcases e3 with⟨rfl,rfl⟩|⟨rfl,rfl⟩
    .exact Val.same hi (by simp only[binOp,Sem.run_bind,C];rfl) (CT (kY rfl)) h
    .exact Val.same hi (by simp only[binOp,Sem.run_bind,C];rfl) (CT (kY rfl)) h
   .exact h.elim
  rcases h with h|⟨xs,ys,b,e1,e2,f1,f2,⟨q1,q2⟩,h⟩;rotate_left 1
  .have A:=hρ x;have hy:=hρ y;rw[e1] at A;rw[e2] at hy;obtain⟨vx,hvx,hrx⟩:=A;obtain⟨vy,hvy,hry⟩:=hy;have hq:=q2 vx vy X.w (PH f1 hrx) (PH f2 hry);refine bT (s:=do eqGuard G ty x y (a.eval x) (a.eval y);binOp G ty (a.eval x) (a.eval y)) qp ?_ p
   rw[hvx,hvy];simp only[Sem.run_bind,run_eqGuard_agg X.w G ty x y vx.toArray vy.toArray q1,Result.andThen_ok];rcases h with⟨rfl,h⟩|⟨rfl,h⟩
   .exact Val.same hi (by rw[run_eql_struct,hq];rfl) (CT (kY rfl)) h
   .exact Val.same hi (by rw[run_neq_struct,hq];rfl) (CT (kY rfl)) h
  have hg:=zDm (vy:=a.eval y) (hρ x) h;refine bT (s:=do eqGuard G ty x y (a.eval x) (a.eval y);binOp G ty (a.eval x) (a.eval y)) qp ?_ p
  have:=zKP B hi G ty (hρ x) (hρ y) h;simp only[Sem.run_bind,KD G ty x y X.w hg.1 hg.2.1,Result.andThen_ok];exact this
 ·
  rename_i G ty x ho;exact bT (s:=Op.unary G (a.eval x)) qp (zPl hi G (hρ x) h) p
 ·
  rename_i src dst x ho;exact bT (s:=convert src dst (a.eval x)) qp (zFW B hi (hρ x) h) p
 ·
  rename_i ty x lo hi' ho;exact bT (s:=Instr.sliceAt ty (a.eval x) (lo.map a.eval) (hi'.map a.eval) none) qp (zDw B hi hρ (hρ x) h) p
 ·
  rename_i ty x lo hi' mx ho;exact bT (s:=Instr.sliceAt ty (a.eval x) (lo.map a.eval) (hi'.map a.eval) (some (a.eval mx))) qp (zFZ B hi hρ (hρ x) h) p
 ·
  rename_i s x f ho;exact bT (s:=Instr.fieldAt s (a.eval x) f) qp (zDp B hi (hρ x) h) p
 ·
  rename_i ty x f ho;split at h
  .rename_i fs cells hk C;split at h
   .rename_i ft M D;obtain⟨fields,hu,hfs⟩:=pQ B hk;have A:=hρ x;rw[C] at A;obtain⟨J,I,W⟩:=A;obtain⟨d,v,E,F,U⟩:=TY (X:=X) B W h;refine bT (s:=Instr.field ty (a.eval x) f) qp (Val.same hi (v:=v) ?_ F U) p;rw[<- hfs,dv] at D;obtain⟨fd,h4,h5⟩:=du.1 D;simp only[Prod.mk.injEq] at h5;obtain⟨rfl,rfl⟩:=h5;have h6:fields[f]?=some fd:=by simpa using h4
    simp[Instr.field,run_underlying hu,h6,I,asAgg,E]
   .exact h.elim
  .exact h.elim
 ·
  rename_i ty x i ho;exact bT (s:=Instr.indexAt ty (a.eval x) (a.eval i)) qp (zAy B hi gd (hρ x) (hρ i) h) p
 .rename_i ty x i ho;exact bT (s:=Instr.index ty (a.eval x) (a.eval i)) qp (zDr B hi (hρ x) (hρ i) h) p
 ·
  rename_i x n ho;split at h
  .rename_i xs C;split at h
   .rename_i e Z;have A:=hρ x;rw[C] at A;obtain⟨J,I,W⟩:=A;have:∀(xs:Bj) (J:Bb) (n:Nat) (e:EV),cY X xs J->xs[n]?=some e->∃v,J[n]?=some v/\fK X e v:=by
     intro xs
     induction xs with
     | nil=>intro J n e _ Z;simp at Z
     | cons c cs ih =>
      intro J n e W Z;cases J with
      | nil=>exact W.elim
      | cons v J =>
       cases n with
       | zero=>simp only[eu,b0] at Z;subst Z;exact⟨v,rfl,W.1⟩
       | succ n=>simp only[fp] at Z ⊢;exact ih J n e W.2 Z
    obtain⟨v,E,F⟩:=this xs J n e W Z;refine bT (s:=Instr.extract (a.eval x) n) qp (Val.same hi (v:=v) ?_ (by cases e<;>exact F) h) p;simp[Instr.extract,I,E]
   .exact h.elim
  .exact h.elim
 ·
  rename_i f first q ho
  split at h
  .rename_i cap E F;have D:first = #[]:=Array.toList_inj.1 (by simpa using E)
   subst D;refine bT (s:=Instr.makeFunc (.func f) (#[].map a.eval) (q.map a.eval)) qp (Val.same hi (v:=.func (.func f) #[] (q.map a.eval)) (by simp[Instr.makeFunc]) (vC (x:=.clo f cap) ⟨(q.toList.map a.eval),congrArg (Value.func (.func f) #[]) (by apply jf;simp),DJ (sQ hρ _) F⟩) h) p
  .exact h.elim
 ·
  rename_i ty l c ho;exact bT (s:=Instr.makeSlice ty (a.eval l) (a.eval c)) qp (zGa B hi (hρ l) (hρ c) h) p
 ·
  rename_i ty ho;exact bT (s:=Instr.makeMap ty none) qp (zDs hi h) p
 ·
  rename_i ty m x ok ho;exact bT (s:=Instr.lookup ty (a.eval m) (a.eval x) ok) qp (zF8 B hi (hρ m) (hρ x) h) p
 ·
  rename_i ty m x v ho;obtain⟨X',E,F,U,h4⟩:=zGd B hi (hρ m) (hρ x) (hρ v) h;unfold Oper.wp;have:execOp a.eval o=(do Instr.mapUpdate ty (a.eval m) (a.eval x) (a.eval v);pure .skip):=qp
  rw[this];simp only[Sem.run_bind,E,Result.andThen_ok,Sem.run_pure];exact p (.tup []) undef X' F U ⟨[],rfl,True.intro⟩ h4
 ·
  rename_i c ho;split at h
  .rename_i f D;split at h
   .rename_i g cap C;have A:=hρ f;rw[C] at A;obtain⟨J,I,W⟩:=A;refine zQ7 (g:=g) (vals:=c.args.toList.map a.eval++J) ?_ hi gd (AY (sQ hρ _) (MA W)) h p;simp only[execOp,ho,resolve,D,I,Deferred.ofValue,Sem.run_bind,Sem.run_pure,Result.andThen_ok,invoke]
    congr 2
    apply jf;simp
   .exact h.elim
  .rename_i D;split at h
   .rename_i ty tys x E F;have ha:c.args = #[x]:=by apply jf;simpa using F
    have ht:c.argTypes[0]?=some ty:=by rw[<- jl,E];rfl
    refine bT (s:=Builtin.len_ c.argTypes o.type #[a.eval x]) (by simp[execOp,ho,resolve,D,invoke,builtin,ha]) (zKS B hi ht (hρ x) h) p
   .exact h.elim
  .rename_i D;split at h
   .rename_i ty tu x y E F;have ha:c.args = #[x,y]:=by apply jf;simpa using F
    have ht:c.argTypes = #[ty,tu]:=by apply jf;simpa using E
    refine bT (s:=Builtin.append_ #[ty,tu] o.type #[a.eval x,a.eval y]) (by simp[execOp,ho,resolve,D,invoke,builtin,ha,ht]) (zAr B hi (hρ x) (hρ y) h) p
   .exact h.elim
  .rename_i D;refine bT (s:=Builtin.min_ c.argTypes o.type (c.args.toList.map a.eval).toArray) ?_ (zGb (ts:=c.argTypes) (ty:=o.type) hi (lt:=true) (sQ hρ _) h) p;have:(c.args.toList.map a.eval).toArray=c.args.map a.eval:=by apply jf;simp
   rw[this];simp[execOp,ho,resolve,D,invoke,builtin]
  .rename_i D;refine bT (s:=Builtin.max_ c.argTypes o.type (c.args.toList.map a.eval).toArray) ?_ (zGb (ts:=c.argTypes) (ty:=o.type) hi (lt:=false) (sQ hρ _) h) p;have:(c.args.toList.map a.eval).toArray=c.args.map a.eval:=by apply jf;simp
   rw[this];simp[execOp,ho,resolve,D,invoke,builtin]
  .rename_i D;split at h
   .rename_i ty x E F;have ha:c.args = #[x]:=by apply jf;simpa using F
    have ht:c.argTypes = #[ty]:=by apply jf;simpa using E
    refine bT (s:=Builtin.clear_ #[ty] o.type #[a.eval x]) (by simp[execOp,ho,resolve,D,invoke,builtin,ha,ht]) (zDo B hi (hρ x) h) p
   .exact h.elim
  .exact h.elim
 .exact h.elim
end all
section
variable {X:Ctx}{s:DS}{a:Act}
structure TInv (X:Ctx) (s:DS) (a:Act):Prop where
 size:a.tmps.size=s.n
 rel:∀i:Nat,bH X (look s.t i) (a.tmps.getD i undef)
 defs:a.defers=[]
theorem TInv.step{X':Ctx}(b:Step X X')(h:TInv X s a):TInv X' s a:=⟨h.size,λi=>(h.rel i).step b,h.defs⟩
theorem TInv.ev(h:TInv X s a)(x:Operand):bH X (evD s.t x) (a.eval x):=zPq h.rel x
theorem TInv.put(h:TInv X s a){d:DV}{v:Value}(p:bH X d v)(o:Option Tmp)(q:aF):TInv X (s.put o d q) (a.put o v):=by
 cases o with
 | none=>exact⟨h.size,h.rel,h.defs⟩
 | some i =>
  simp only[Act.put,DS.put];by_cases b:i<s.n
  .rw[aw b];refine⟨by simp[h.size],λj=>?_,h.defs⟩
   simp only[look];rw[iu];by_cases g:j=i
   .subst g;rw[aw rfl,py (by rw[h.size];exact b)];exact p
   .rw[au g,qc (λe=>g e.symm),<- iu];exact h.rel j
  .rw[au b];refine⟨by simp[h.size],λj=>?_,h.defs⟩
   have:=h.rel j;have l:a.tmps.setIfInBounds i v=a.tmps:=Array.setIfInBounds_eq_of_size_le (by rw[h.size];exact oi b);rw[l];exact this
def zE0(X0:Ctx)(Q:Be):Exit->Act->World->Prop:=λe a w=>∃s X,Q e s/\X.w=w/\X.h=s.h/\HInv X/\Step X0 X/\TInv X s a
def SWP(P:Program)(X0:Ctx)(c:Code)(s:DS)(Q:Be):Prop :=
 Gnd P X0->∀(X:Ctx) (a:Act),X.h=s.h->HInv X->Step X0 X->TInv X s a->c.wp P (zE0 X0 Q) a X.w
section rules
variable {P:Program}{T:Tab}{X0:Ctx}{s:DS}{Q:Be}
variable {ops:Array Oper}{id n i:Nat}{c x y:Code}{X X0:Ctx}{v:Value}{s':DS}
theorem yX(N:bQ P T)(O:Gnd P X0):∀(l:List Oper) {s:DS} {X:Ctx} {a:Act},X.h=s.h->HInv X->Step X0 X->TInv X s a->lF P T ops l s (λs'=>Q .normal s')->wpList P ops (zE0 X0 Q) l a X.w
 | [],s,X,a,I,D,E,A,h=>wpList_nil ⟨s,X,h,rfl,I,D,E,A⟩
 | o::rest,s,X,a,I,D,E,A,h=>by
  refine wpList_step λK Z=>?_;have go:dop P T o.op s.t s.h (λd h'=>lF P T ops rest (s.put o.dst d h') (λs'=>Q .normal s'))->o.wp P a X.w K (zE0 X0 Q):=by
   intro b;rw[<- I] at b;refine EB N D (O.step E) A.ev b λd v X' q J B h4=>Z _ _ ?_;refine yX N O rest (s:=s.put o.dst d X'.h) ?_ q (E.trans D J) ?_ h4
   .unfold DS.put;split<;>(try split)<;>rfl
   .exact(A.step J).put B o.dst X'.h
  have skip:lF P T ops rest (s.put o.dst (.tup []) s.h) (λs'=>Q .normal s')->K (a.put o.dst undef) X.w:=by
   intro b;refine Z _ _ (yX N O rest (s:=s.put o.dst (.tup []) s.h) (by rw[I];unfold DS.put;split<;>(try split)<;>rfl) D E (A.put (d:=.tup []) (v:=undef) ⟨[],rfl,True.intro⟩ o.dst s.h) b)
  simp only[lF] at h;split at h
  .rename_i F;rw[aw (by simp[Region.wanted,F])];exact go h
  .rename_i j G F;have hy:∀d,((ops[j]?).bind (·.dst)).map (λi=>look s.t i)=some d->∃i,(ops[j]?).bind (·.dst)=some i/\bH X d (a.tmps.getD i undef):=by
    intro d b;obtain⟨i,q,J⟩:=du.1 b;exact⟨i,q,J▸A.rel i⟩
   split at h
   .rename_i v b;obtain⟨i,q,B⟩:=hy _ b;simp only[bH,cJ,dO] at B;have C:a.tmps[i]?=some (.bool v):=by
     rcases cc i a.tmps.size with p|U
     .rw[iz p];simp only[Array.getD,p,dif_pos] at B
      congr 1
     .rw[iu,jx U] at B;cases B
    have g:yielded ops a.tmps j=some v:=by
     unfold yielded;rw[q];simp only[j5,C]
    by_cases M:v=G
    .rw[aw (by simp[Region.wanted,F,g,M])];exact go (h.1 M)
    .rw[au (by simp[Region.wanted,F,g,M])];exact skip (h.2 M)
   .rename_i b;obtain⟨i,q,vs,C,hr⟩:=hy _ b;have W:vs=[]:=by
     cases vs with
     | nil=>rfl
     | cons _ _=>exact hr.elim
    subst W;have g:yielded ops a.tmps j=none:=by
     unfold yielded;rw[q];simp only[j5];rw[iu] at C;cases hx:a.tmps[i]? with
     | none=>rfl
     | some u=>rw[hx] at C;simp only[fe] at C;rw[C]
    rw[au (by simp[Region.wanted,F,g])];exact skip h
   .exact h.elim
theorem zET(b:bQ P T)(h:lF P T ops ops.toList s (λs'=>Q .normal s')):SWP P X0 (.region id ops false) s Q :=
 λg _ _ l p q A=>wp_region_list (yX b g ops.toList l p q A h)
theorem iP{b:Be}(h:SWP P X0 c s Q)(g:∀e s,Q e s->b e s):SWP P X0 c s b :=
 λl X a p q A B=>wp_mono (h l X a p q A B) λ_ _ _ ⟨s',X',C,D⟩=>⟨s',X',g _ _ C,D⟩
theorem RZ(h:SWP P X0 x s λe s'=>match e with|.normal=>SWP P X0 y s' Q|e=>Q e s'):SWP P X0 (.seq x y) s Q:=by
 intro g X a B C D E;refine wp_seq (wp_mono (h g X a B C D E) λe a w F=>?_);obtain⟨s',X',b,rfl,l,p,q,A⟩:=F;cases e<;>simp only[Exit.then] at b ⊢
 case normal=>exact b g X' a l p q A
 all_goals exact⟨s',X',b,rfl,l,p,q,A⟩
theorem zNu(h:Q .normal s):SWP P X0 .skip s Q:=λ_ X _ b g l p=>wp_skip ⟨s,X,h,rfl,b,g,l,p⟩
theorem zQN(h:Q .ret s):SWP P X0 .ret s Q:=λ_ X _ b g l p=>wp_ret ⟨s,X,h,rfl,b,g,l,p⟩
theorem zNr(h:Q (.exit id) s):SWP P X0 (.exit id) s Q:=λ_ X _ b g l p=>wp_exit ⟨s,X,h,rfl,b,g,l,p⟩
theorem zNq{c:Operand}{t:Bool}(C:evD s.t c=.c (.p (.b t)))(h1:t=true->SWP P X0 x s Q)(D:t=false->SWP P X0 y s Q):SWP P X0 (.cond c x y) s Q:=by
 intro l X a q A B g;have:=g.ev c;rw[C] at this;simp only[bH,cJ,dO] at this;exact wp_cond_split this (λe=>h1 e l X a q A B g) (λe=>D e l X a q A B g)
theorem ZO(h:SWP P X0 c s λe s'=>match e with|.exit b=>if b=id then Q .normal s' else Q (.exit b) s'|e=>Q e s'):SWP P X0 (.block id c) s Q:=by
 intro C X a D E F G;refine wp_block (wp_mono (h C X a D E F G) λe a w I=>?_);obtain⟨s',X',g,rfl,l,p,q,A⟩:=I;cases e<;>simp only[Exit.inBlock] at g ⊢
 case exit b =>
  split
  .rename_i B;rw[aw B] at g;exact⟨s',X',g,rfl,l,p,q,A⟩
  .rename_i B;rw[au B] at g;exact⟨s',X',g,rfl,l,p,q,A⟩
 all_goals exact⟨s',X',g,rfl,l,p,q,A⟩
def jZ(n:Nat):KV->Bool
 | .p _=>true
 | .ptr id _=>decide (id<n)
def aX(n:Nat):CV->Bool
 | .p _=>true
 | .own id _ _=>decide (id<n)
 | .ptr id _=>decide (id<n)
 | .aptr id _ _=>decide (id<n)
 | .mp id=>decide (id<n)
 | .bs id _=>decide (id<n)
 | .eptr _=>true
 | .full _ _=>true
 | .clo _ b=>b.all (jZ n)
def rR(n:Nat):EV->Bool
 | .c x=>aX n x
 | .agg b=>b.all (aX n)
def bD(n:Nat):DV->Bool
 | .jk=>true
 | .c x=>aX n x
 | .agg b=>b.all (aX n)
 | .tup b=>b.all (rR n)
def cG(n:Nat):DB->Bool
 | .dead=>true
 | .box cells=>cells.all (aX n)
 | .arr _ _ _=>true
 | .mp _=>true
def Ctx.cut(X:Ctx)(n:Nat):Ctx:=⟨X.w,X.S,X.G,X.h.take n⟩
theorem hU{db:DB}(h:(X.cut n).h[i]?=some db):X.h[i]?=some db/\i<n:=by
 simp only[Ctx.cut] at h;rw[gq] at h;split at h
 .rename_i b;exact⟨h,b⟩
 .cases h
theorem yV(h1:i<X.h.length)(b:i<n):i<(X.cut n).h.length:=by simp only[Ctx.cut,cr];omega
theorem rO.cut{c:KV}(b:jZ n c=true)(h:rO X c v):rO (X.cut n) c v:=by
 cases c<;>simp only[jZ,ew] at b<;>simp only[rO] at h ⊢
 case p=>exact h
 case ptr id g=>exact⟨yV h.1 b,h.2.1,λcells l=>h.2.2 cells (hU l).1⟩
theorem gI.cut: ∀{cs:List KV} {vs:Bb},cs.all (jZ n)=true->gI X cs vs->gI (X.cut n) cs vs
 | [],[],_,_=>True.intro
 | _::_,_::_,b,h=>by
  simp only[dz,bn] at b;exact⟨h.1.cut b.1,gI.cut b.2 h.2⟩
 | [],_::_,_,h=>h.elim
 | _::_,[],_,h=>h.elim
theorem cJ.cut{c:CV}(g:aX n c=true)(h:cJ X c v):cJ (X.cut n) c v:=by
 cases c<;>simp only[aX,ew] at g<;>simp only[cJ] at h ⊢
 case p=>exact h
 case own id l len=>exact⟨yV h.1 g,h.2.1,λk es q b=>h.2.2 k es q (hU b).1⟩
 case ptr id l=>exact⟨yV h.1 g,h.2.1,λcells b=>h.2.2 cells (hU b).1⟩
 case aptr id i j=>exact⟨yV h.1 g,h.2.1,λk es q b=>h.2.2 k es q (hU b).1⟩
 case mp id=>exact⟨yV h.1 g,h.2.1,λes b=>h.2.2 es (hU b).1⟩
 case bs id n=>exact⟨yV h.1 g,h.2.1,λcells b=>h.2.2 cells (hU b).1⟩
 case eptr=>exact h
 case full=>exact h
 case clo f A=>obtain⟨B,C,D⟩:=h;exact⟨B,C,D.cut g⟩
theorem bP.cut: ∀{cs:Bf} {vs:Bb},cs.all (aX n)=true->bP X cs vs->bP (X.cut n) cs vs
 | [],[],_,_=>True.intro
 | _::_,_::_,b,h=>by
  simp only[dz,bn] at b;exact⟨h.1.cut b.1,bP.cut b.2 h.2⟩
 | [],_::_,_,h=>h.elim
 | _::_,[],_,h=>h.elim
theorem fK.cut{c:EV}(b:rR n c=true)(h:fK X c v):fK (X.cut n) c v:=by
 cases c<;>simp only[rR] at b<;>simp only[fK] at h ⊢
 .exact h.cut b
 .obtain⟨g,l,p⟩:=h;exact⟨g,l,p.cut b⟩
theorem cY.cut: ∀{cs:Bj} {vs:Bb},cs.all (rR n)=true->cY X cs vs->cY (X.cut n) cs vs
 | [],[],_,_=>True.intro
 | _::_,_::_,b,h=>by
  simp only[dz,bn] at b;exact⟨h.1.cut b.1,cY.cut b.2 h.2⟩
 | [],_::_,_,h=>h.elim
 | _::_,[],_,h=>h.elim
theorem bH.cut{d:DV}(b:bD n d=true)(h:bH X d v):bH (X.cut n) d v:=by
 cases d<;>simp only[bD] at b<;>simp only[bH] at h ⊢
 .exact h.cut b
 .obtain⟨g,l,p⟩:=h;exact⟨g,l,p.cut b⟩
 .obtain⟨g,l,p⟩:=h;exact⟨g,l,p.cut b⟩
theorem JS{α:Type}{p:α->Bool}{l:List α}{x:α}(h:l.all p=true)(b:l[i]?=some x):p x=true:=fb.1 h x (dr b)
theorem HInv.cut(hi:HInv X)(G:(X.h.take n).all (cG n)=true):HInv (X.cut n) where
 slt:=hi.slt
 blk:=λid b h=>by
  have p:=JS G h;obtain⟨I,h2⟩:=hU h;have l:=hi.blk id b I;cases b<;>simp only[fI] at l ⊢
  case box cells =>
   obtain⟨g,arr,J,M,N,O,U,W,Z⟩:=l;refine⟨g,arr,J,M,N,O,U,W,cR.mk λj c F=>?_⟩;obtain⟨v,h8,h9⟩:=Z.at_ F;exact⟨v,h8,h9.cut (JS (show cells.all (aX n)=true from p) F)⟩
  case arr=>exact l
  case mp=>exact l
 own:=λid b g h q A=>hi.own id b g (hU h).1 q A
 inj:=λid b B C g g' h q hf h' D A E he=>hi.inj id b B C g g' (hU h).1 q hf (hU h').1 D A E he
theorem Step.cut(b:Step X0 X)(C:X0.h.length<=n):Step X0 (X.cut n) where
 size:=b.size
 os:=b.os
 tape:=b.tape
 output:=b.output
 kept:=b.kept
 len:=by simp only[Ctx.cut,cr];have:=b.len;omega
 ids:=λid l hid h p=>b.ids id l hid (hU h).1 p
 frame:=b.frame
 mine:=λid q g h p A B=>b.mine id q g (hU h).1 p A B
 upper:=b.upper
def WkT(n:Nat)(t:Fr):Fr->Prop
 | []=>True
 | p::b=>(look t p.1=p.2/\bD n p.2=true)/\WkT n t b
theorem WkT.look{t:Fr}:∀{t':Fr},WkT n t t'->∀i,look t' i=.jk∨(look t' i=Dm.look t i/\bD n (look t' i)=true)
 | [],_,_=>.inl rfl
 | p::t',h,i=>by
  simp only[Dm.look];split
  .rename_i b;subst b;exact .inr ⟨h.1.1.symm,h.1.2⟩
  .exact WkT.look h.2 i
def SF(n0:Nat)(s s':DS):Prop:=s'.n=s.n/\n0<=s'.h.length/\s'.h=s.h.take s'.h.length/\s'.h.all (cG s'.h.length)=true/\WkT s'.h.length s.t s'.t
theorem SF.use{n0:Nat}{s:DS}(h:SF n0 s s'){a:Act}(F:X0.h.length=n0)(p:X.h=s.h)(hi:HInv X)(A:Step X0 X)(g:TInv X s a):∃X',X'.w=X.w/\X'.h=s'.h/\HInv X'/\Step X0 X'/\TInv X' s' a:=by
 obtain⟨B,G,q,C,D⟩:=h;have b:(X.cut s'.h.length).h=s'.h:=by simp only[Ctx.cut];rw[p];exact q.symm
 refine⟨X.cut s'.h.length,rfl,b,hi.cut (by rw[p,<- q];exact C),A.cut qd,g.size.trans B.symm,λi=>?_,g.defs⟩;rcases D.look i with l|⟨l,E⟩
 .rw[l];exact True.intro
 .have:=g.rel i;rw[<- l] at this;exact this.cut E
theorem SA(b:SF X0.h.length s s')(h:SWP P X0 c s' Q):SWP P X0 c s Q:=by
 intro g X a l p q A;obtain⟨X',B,C,D,E,F⟩:=b.use rfl l p q A;rw[<- B];exact h g X' a C D E F
theorem zNv(i k:Nat)(B:look s.t i=.c (.p .nil))(h:SWP P X0 c ⟨s.n,(i,.c (.own s.h.length 0 0))::s.t,s.h++[.arr k [] false]⟩ Q):SWP P X0 c s Q:=by
 intro C X a l q D b;obtain⟨A,E⟩:=virt q k;refine h C (X.virt k) a (by simp[Ctx.virt,l]) E (D.trans q A) ⟨b.size,λj=>?_,b.defs⟩;simp only[look];split
 .rename_i g;subst g;have:=b.rel j;rw[B] at this;rw[<- l];exact vC (kT (X:=X) (k:=k) this)
 .exact(b.rel j).step A
section
variable {P:Program}{T:Tab}{X0:Ctx}{s:DS}{Q:Be}
end
end rules
end
section
def rG(T:Tab)(s:DS):List ResultVar->(Bj->Prop)->Prop
 | [],K=>K []
 | .tmp t::b,K =>
  match look s.t t with
  | .c x=>rG T s b λes=>K (.c x::es)
  | .agg g=>rG T s b λes=>K (.agg g::es)
  | _=>False
 | .cell a l::b,K=>(T l).size≠0/\yW (T l) s.h (look s.t a) λd =>
  match d with
  | .c x=>rG T s b λes=>K (.c x::es)
  | .agg g=>rG T s b λes=>K (.agg g::es)
  | _=>False
def NZ:Bj->DV
 | [e]=>e.toDV
 | es=>.tup es
def zLN(h:aF):EV->Option EV
 | .c x=>(zAp h x).map .c
 | .agg b=>(pvs h b).map λg=>.agg (g.map .p)
def KB(h:aF):Bj->Option Bj
 | []=>some []
 | e::es=>match zLN h e,KB h es with
  | some x,some b=>some (x::b)
  | _,_=>none
def zTx:EV->List Nat
 | .c x=>zHy x
 | .agg b=>ET b
def zDy:Bj->List Nat
 | []=>[]
 | e::es=>zTx e++zDy es
def zJo(h:aF):DV->Option DV
 | .tup es=>(KB h es).map .tup
 | d=>zAC h d
def zQo:DV->List Nat
 | .tup es=>zDy es
 | d=>zRz d
def Fin(n:Nat)(h:aF)(d:DV)(R:Bd):Prop :=
 R d h ∨
 (∃b,zJo h d=some b/\((uM h (zQo d)).take n).all (cG n)=true/\R b ((uM h (zQo d)).take n)) ∨
 (∃id len k es,d=.c (.own id 0 len)/\n<=id/\h[id]?=some (.arr k es false)/\(h.take n).all (cG n)=true/\R (.c (.own n 0 len)) (h.take n++[.arr k es false]))
def BK(T:Tab)(n:Nat)(b:List ResultVar)(R:Bd):Be
 | .normal,s=>rG T s b λes=>Fin n s.h (NZ es) R
 | .ret,s=>rG T s b λes=>Fin n s.h (NZ es) R
 | _,_=>False
def zEv(g:Array Value):ResultVar->Sem Value
 | .tmp t=>pure (g.getD t undef)
 | .cell b t=>do loadVar t (<- asAddr (g.getD b undef))
def zEx(fn:Func)(b:Array Value):results fn b=(do let vs <- fn.results.mapM (zEv b);pure (if h:vs.size=1 then vs[0] else .tuple vs)):=by
 unfold results
 congr 2
section fin
variable {P:Program}{T:Tab}{X0:Ctx}
variable {X X' Y:Ctx}{s:DS}{a:Act}{e:EV}{v:Value}{fn:Func}{d:DV}{R:Bd}
theorem rV(F:bQ P T)(G:X.h=s.h)(hi:HInv X)(D:TInv X s a):∀(B:List ResultVar) {K:Bj->Prop},rG T s B K ->
  ∃es vs,K es/\cY X es vs/\(B.mapM (zEv a.tmps)).run P X.w=.ok vs X.w
 | [],K,h=>⟨[],[],h,True.intro,ql⟩
 | .tmp t::B,K,h=>by
  simp only[rG] at h;have l:=D.ev (.tmp t);simp only[evD,Act.eval] at l;split at h
  .rename_i x q;rw[q] at l;obtain⟨es,vs,p,E,C⟩:=rV F G hi D B h;exact⟨_,_::vs,p,⟨l,E⟩,by rw[mb];simp only[zEv,Sem.run_bind,Sem.run_pure,Result.andThen_ok,C]⟩
  .rename_i Z q;rw[q] at l;obtain⟨es,vs,p,E,C⟩:=rV F G hi D B h;exact⟨_,_::vs,p,⟨l,E⟩,by rw[mb];simp only[zEv,Sem.run_bind,Sem.run_pure,Result.andThen_ok,C]⟩
  .exact h.elim
 | .cell b ty::B,K,h=>by
  simp only[rG] at h;have l:=D.ev (.tmp b);simp only[evD,Act.eval] at l;obtain⟨hs,h⟩:=h;rw[<- G] at h;obtain⟨v,d,p,E,C⟩:=TW F hi hs l h;have A:((do loadVar ty (<- asAddr (a.tmps.getD b undef))):Sem Value).run P X.w=.ok v X.w:=by
   unfold yW at h;split at h
   .rename_i id J q;split at h
    .rename_i cells M;rw[q] at l;obtain⟨_,_,N⟩:=l;obtain⟨g,_,I⟩:=N _ M;rw[I] at p ⊢;simpa[Instr.loadAt,Instr.sureAddr,asAddr] using p
    .exact h.elim
   .rename_i id i j q;split at h
    .rename_i k es ro M;rw[q] at l;obtain⟨_,_,N⟩:=l;obtain⟨g,_,I⟩:=N _ _ _ M;rw[I] at p ⊢;simpa[Instr.loadAt,Instr.sureAddr,asAddr] using p
    .exact h.elim
   .rename_i cs q;rw[q] at l;obtain⟨bl,J,I,_⟩:=l;rw[I] at p ⊢;simpa[Instr.loadAt,Instr.sureAddr,asAddr] using p
   .exact h.elim
  cases d<;>simp only at C
  case c x =>
   obtain⟨es,vs,O,U,W⟩:=rV F G hi D B C;refine⟨_,v::vs,O,⟨E,U⟩,?_⟩;rw[mb];simp only[zEv,Sem.run_bind] at A ⊢;simp only[A,Result.andThen_ok,W,Sem.run_pure]
  case agg Z =>
   obtain⟨es,vs,O,U,W⟩:=rV F G hi D B C;refine⟨_,v::vs,O,⟨E,U⟩,?_⟩;rw[mb];simp only[zEv,Sem.run_bind] at A ⊢;simp only[A,Result.andThen_ok,W,Sem.run_pure]
theorem fK.toDV(h:fK X e v):bH X e.toDV v:=by cases e<;>exact h
theorem zBq(g:bQ P T){K:Bj->Prop}(l:X.h=s.h)(hi:HInv X)(p:TInv X s a)(h:rG T s fn.results.toList K):
  ∃es v,K es/\bH X (NZ es) v/\(results fn a.tmps).run P X.w=.ok v X.w:=by
 obtain⟨es,b,q,A,B⟩:=rV g l hi p fn.results.toList h;refine⟨es,if h:b.length=1 then b[0] else .tuple b.toArray,q,?_,?_⟩
 .match es,b,A with
  | [],[],_=>exact⟨[],rfl,True.intro⟩
  | [e],[v],h=>exact h.1.toDV
  | e::f::es,v::u::b,h=>exact⟨v::u::b,rfl,h⟩
 .rw[zEx];rw[Array.mapM_eq_mapM_toList];simp only[Sem.run_bind,Sem.run_map,B,Result.andThen_ok,Sem.run_pure];rfl
theorem zHg(hi:HInv X)(p:Step X X')(q:X'.w=X.w)(b:Y.w=X'.w)(g:Y.S=X'.S){e':EV}(A:fK X e v)(l:zLN X.h e=some e')(B:yO X X' (zTx e)):fK Y e' v:=by
 cases e<;>simp only[zLN] at l
 case c x =>
  obtain⟨z,C,rfl⟩:=du.1 l;exact TE hi p q b g A C B
 case agg I =>
  obtain⟨J,D,rfl⟩:=du.1 l;obtain⟨E,F,G⟩:=A;refine⟨E,F,bP.of_ps ?_⟩;rw[b,g];exact GF hi p q G D B
theorem KC(hi:HInv X)(p:Step X X')(q:X'.w=X.w)(g:Y.w=X'.w)(l:Y.S=X'.S):∀{es es':Bj} {vs:Bb},cY X es vs->KB X.h es=some es'->yO X X' (zDy es)->cY Y es' vs
 | [],_,[],_,b,_=>by simp only[KB,b0] at b;subst b;exact True.intro
 | d::F,C,v::vs,A,b,B=>by
  simp only[KB] at b;split at b
  .rename_i x G D E;cases b;exact⟨zHg hi p q g l A.1 D (B.sub λid h=>by simp[zDy,h]),KC hi p q g l A.2 E (B.sub λid h=>by simp[zDy,h])⟩
  .cases b
 | [],_,_::_,h,_,_=>h.elim
 | _::_,_,[],h,_,_=>h.elim
theorem zJp(hi:HInv X)(l:Step X X')(p:X'.w=X.w)(b:Y.w=X'.w)(g:Y.S=X'.S){d':DV}(q:bH X d v)(A:zJo X.h d=some d')(B:yO X X' (zQo d)):bH Y d' v:=by
 cases d
 case tup es =>
  obtain⟨z,C,rfl⟩:=du.1 A;obtain⟨D,E,F⟩:=q;exact⟨D,E,KC hi l p b g F C B⟩
 all_goals exact TZ hi l p b g q A B
theorem zHi(hi:HInv X)(O:Step X0 X)(hd:bH X d v)(h:Fin X0.h.length X.h d R):Ret X0 R v X.w:=by
 rcases h with h|⟨d',h1,W,h3⟩|⟨id,len,k,es,rfl,h1,W,h3,h4⟩
 .exact⟨d,X,rfl,hi,O,hd,h⟩
 .obtain⟨X1,hw,l,hG,hst,hi1,hfx⟩:=kF (zQo d) hi;rw[<- l] at W h3;exact⟨d',X1.cut X0.h.length,hw,hi1.cut W,(O.trans hi hst).cut (bg _),zJp (Y:=X1.cut X0.h.length) hi hst hw rfl rfl hd h1 hfx,h3⟩
 ·
  have hid:=aR W
  let g:=X.G id
  let Y:Ctx:=⟨X.w,X.S,λi=>if i=X0.h.length then X.G id else X.G i,X.h.take X0.h.length++[.arr k es false]⟩
  have J:(X.h.take X0.h.length).length=X0.h.length:=by simp only[cr];omega
  have B:∀{i:Nat} {db:DB},Y.h[i]?=some db->(i<X0.h.length/\X.h[i]?=some db)∨(i=X0.h.length/\db=.arr k es false):=by
   intro i db l;rcases cE l with⟨q,C⟩|⟨q,C⟩
   .rw[J] at q;rw[gq,aw q] at C;exact .inl ⟨q,C⟩
   .exact .inr ⟨qd,C⟩
  have b:∀{i:Nat},i<X0.h.length->Y.G i=X.G i:=λhlt=>by
   show (if _ then _ else _)=_
   rw[au qd]
  have E:Y.G X0.h.length=X.G id:=by show (if _ then _ else _)=_;rw[aw rfl]
  have hcut:=hi.cut h3;have hscut:=O.cut (bg X0.h.length);have hstep:Step X0 Y:=by
   refine⟨O.size,O.os,O.tape,O.output,O.kept,by show _<=(_++_:List DB).length;simp only[bo,J];omega,λi db hlt l hl=>?_,O.frame,λi db g' l hl hf M=>?_,O.upper⟩
   .rcases B l with⟨q,C⟩|⟨q,_⟩
    .obtain⟨db0,q1,q2,q3,q4⟩:=O.ids i db hlt C hl;exact⟨db0,q1,q2,(b q).trans q3,q4⟩
    .omega
   .rcases B l with⟨q,C⟩|⟨q,C⟩
    .rw[b q] at M;exact O.mine i db g' C hl hf M
    .subst q;rw[E] at M;exact O.mine id _ g' W rfl rfl M
  have hinv:HInv Y:=by
   refine⟨hi.slt,λi db l=>?_,λi db g' l hl M=>?_,λi d i' d' g1 g1' l hl hf hh' hl' U F he=>?_⟩
   .rcases B l with⟨q,C⟩|⟨q,C⟩
    .have hb:=hcut.blk i db (by simp only[Ctx.cut];rw[gq,aw q];exact C);have hcl:=JS h3 (show (X.h.take X0.h.length)[i]?=some db by rw[gq,aw q];exact C)
     cases db<;>simp only[fI] at hb ⊢
     case box cells =>
      obtain⟨g',arr,el,fz,q1,q2,q3,q4,q5⟩:=hb;refine⟨g',arr,el,fz,(b q).trans q1,q2,q3,q4,cR.mk λj c hj=>?_⟩;obtain⟨u,q6,q7⟩:=q5.at_ hj;refine⟨u,q6,?_⟩;have hcc:=JS (show cells.all (aX X0.h.length)=true from hcl) hj
      have q8:=hi.blk i _ C;simp only[fI] at q8;have hmono:∀{c:CV} {u:Value},aX X0.h.length c=true->cJ X c u->cJ Y c u:=by
       intro c u D N;have A:∀j,j<X0.h.length->j<Y.h.length:=λj hj=>by show _<(_++_:List DB).length;simp only[bo,J];omega
       have I:∀j db,j<X0.h.length->Y.h[j]?=some db->X.h[j]?=some db:=λj db hj l=>by
        rcases B l with⟨_,k⟩|⟨k,_⟩
        .exact k
        .omega
       cases c<;>simp only[aX,ew] at D<;>simp only[cJ] at N ⊢
       case p=>exact N
       case own Z off' len' =>
        refine⟨A _ D,N.2.1,λk' es' ro' l=>?_⟩;rw[b D];exact N.2.2 k' es' ro' (I _ _ D l)
       case ptr Z off' =>
        refine⟨A _ D,N.2.1,λcs l=>?_⟩;rw[b D];exact N.2.2 cs (I _ _ D l)
       case aptr Z i' j' =>
        refine⟨A _ D,N.2.1,λk' es' ro' l=>?_⟩;rw[b D];exact N.2.2 k' es' ro' (I _ _ D l)
       case bs Z n' =>
        refine⟨A _ D,N.2.1,λcs l=>?_⟩;rw[b D];exact N.2.2 cs (I _ _ D l)
       case mp Z =>
        refine⟨A _ D,N.2.1,λes' l=>?_⟩;rw[b D];exact N.2.2 es' (I _ _ D l)
       case eptr=>exact N
       case full=>exact N
       case clo f cap =>
        obtain ⟨vs,r1,r2⟩:=N;refine⟨vs,r1,?_⟩;have:∀(cs:List KV) (vs:Bb),cs.all (jZ X0.h.length)=true->gI X cs vs->gI Y cs vs:=by
         intro cs
         induction cs with
         | nil=>intro vs _ h;cases vs with
          | nil=>exact True.intro
          | cons _ _=>exact h.elim
         | cons c cs ih =>
          intro vs D h;cases vs with
          | nil=>exact h.elim
          | cons v vs =>
           simp only[dz,bn] at D;refine⟨?_,ih vs D.2 h.2⟩;have h1:=h.1;cases c<;>simp only[rO] at h1 ⊢
           .exact h1
           .have hc1:=D.1;simp only[jZ,ew] at hc1;refine⟨A _ hc1,h1.2.1,λcs' l=>?_⟩;rw[b hc1];exact h1.2.2 cs' (I _ _ hc1 l)
        exact this cap vs D r2
      obtain⟨g2,arr2,el2,fz2,r1,r2,r3,r4,r5⟩:=q8;rw[show X.G i=some g' from q1] at r1
      cases r1;obtain⟨u2,r6,r7⟩:=r5.at_ hj;have:u2=u:=fx (r6.symm.trans q6);subst this;exact hmono hcc r7
     case arr=>rw[b q];exact hb
     case mp=>rw[b q];exact hb
    .subst q;subst C;have hb:=hi.blk id _ W;simp only[fI] at hb ⊢;rw[E];exact hb
   .rcases B l with⟨q,C⟩|⟨q,C⟩
    .rw[b q] at M;exact hi.own i db g' C hl M
    .subst q;subst C;rw[E] at M;exact hi.own id _ g' W rfl M
   .rcases B l with⟨q,C⟩|⟨q,C⟩<;>rcases B hh' with⟨k1',k2'⟩|⟨k1',k2'⟩
    .rw[b q] at U;rw[b k1'] at F;exact hi.inj i d i' d' g1 g1' C hl hf k2' hl' U F he
    .subst k1';rw[b q] at U;rw[E] at F;have:=hi.inj i d id _ g1 g1' C hl hf W rfl U F he;omega
    .subst q;rw[E] at U;rw[b k1'] at F;have:=hi.inj id _ i' d' g1 g1' W rfl rfl k2' hl' U F he;omega
    .omega
  refine⟨.c (.own X0.h.length 0 len),Y,rfl,hinv,hstep,?_,h4⟩;obtain⟨_,q2,q3⟩:=hd;refine vC (x:=.own X0.h.length 0 len) ⟨by show _<(_++_:List DB).length;simp only[bo,J,bw];omega,q2,λk' es' ro' l=>?_⟩
  rcases B l with⟨q,_⟩|⟨_,C⟩
  .omega
  .cases C;rw[E];exact q3 _ _ _ W
theorem hZ (hT:bQ P T) {f:FuncId} {c:Code} {args:Bi} {h:aF} (N:P.funcs[f]?=some fn) (O:fn.body=some c) (har:args.length<=fn.ntmps) (hn:(fn.name == "runtime.NumGoroutine")=false)
 (hs:∀X0:Ctx,X0.h=h->SWP P X0 c ⟨fn.ntmps,args.zipIdx.map (λp=>(p.2,p.1)),h⟩ (BK T h.length fn.results.toList R)):aA P f args h R:=by
 intro X vals F U gd W;refine .inl ⟨?_,calls_of_wp N O ?_⟩
 ·have G:¬ fn.name = "runtime.NumGoroutine" := by simpa using hn
  simp[callFunc,N,G,O]
 .have A:∀(b:Bi) (g:Bb),eC X b g->b.length=g.length:=by
   intro b
   induction b with
   | nil=>intro g h;cases g with
    | nil=>rfl
    | cons _ _=>exact h.elim
   | cons d b B=>intro g h;cases g with
    | nil=>exact h.elim
    | cons v g=>simp[B g h.2]
  have hl:=A args vals W;have I:∀(b:Bi) (g:Bb) (i:Nat) (d:DV),eC X b g->b[i]?=some d->∃v,g[i]?=some v/\bH X d v:=by
   intro b
   induction b with
   | nil=>intro g i d _ h;simp at h
   | cons c b B=>intro g i d h l;cases g with
    | nil=>exact h.elim
    | cons v g =>
     cases i with
     | zero=>simp only[eu,b0] at l;subst l;exact⟨v,rfl,h.1⟩
     | succ i=>simp only[fp] at l ⊢;exact B g i d h.2 l
  have q:∀(b:Bi) (k i:Nat),look ((b.zipIdx k).map λp=>(p.2,p.1)) i=if k<=i then (b[i-k]?).getD .jk else .jk:=by
   intro b
   induction b with
   | nil=>intro k i;simp[look]
   | cons d b B =>
    intro k i;simp only[po,dt,look];by_cases C:i=k
    .subst C;simp
    .rw [au C,B];by_cases D:k<=i
     .rw[aw D,aw qd,show i-k=(i-(k+1))+1 by omega]
      rfl
     .rw[au D,au qd]
  have ht:TInv X ⟨fn.ntmps,args.zipIdx.map (λp=>(p.2,p.1)),h⟩ { tmps:=vals.toArray++Array.replicate (fn.ntmps-vals.toArray.size) undef,defers:=[] }:=by
   refine⟨qk,λi=>?_,rfl⟩
   simp only;rw[q args 0 i,aw (bc _),kx,iu];rcases cc i args.length with J|M
   .have l:args[i]?=some args[i]:=ay J;obtain⟨v,E,h2⟩:=I args vals i _ W l;rw[mr qk];simp only[oq,E,l,fe];exact h2
   .rw[jb M];exact True.intro
  refine wp_mono (hs X F gd X _ F U (Step.refl U) ht) λe a w hp=>?_;obtain⟨s,X',E,rfl,Z,h4,h5,h6⟩:=hp;have fin:rG T s fn.results.toList (λes=>Fin h.length s.h (NZ es) R)->a.defers=[]/\∃v,(results fn a.tmps).run P X'.w=.ok v X'.w/\∃u,Ending.returned v=Ending.returned u/\Ret X R u X'.w:=by
   intro l;obtain⟨es,v,k1,k2,k3⟩:=zBq (P:=P) hT Z h4 h6 l;refine⟨h6.defs,v,k3,v,rfl,zHi h4 h5 k2 ?_⟩;rw[F,Z];exact k1
  cases e<;>simp only[BK] at E
  case normal=>exact fin E
  case ret=>exact fin E
end fin
variable {P:Program}{f:FuncId}{args args':Bi}{h:aF}{r:DV}{K:Bd}
theorem aA.use(q:aA P f args' [] λd g=>d=r/\g=[])(A:jI h args=some args')(b:∀n,r.sh n=r)
 (B:K r (uM h (nN args))):aA P f args h K :=
 (aA.frame h A q).mono λd g ⟨d0,E,⟨C,D⟩,l,p⟩=>by
  subst C;subst D;rw[b] at l;simp only[gw,dh] at p;rw[l,p];exact B
theorem aA.useFlat(l:aA P f args' [] λd g=>d=r/\g=[])(p:jI h args=some args')(b:VT r=true)
 (q:K r h):aA P f args h K :=
 (aA.flat h p (λd A B=>by rw[B.1];exact b) l).mono λd g ⟨⟨A,C⟩,D⟩=>by
  rw[C.1,D];exact q
section
variable {P:Program}{T:Tab}{X0:Ctx}
end
section
variable {P:Program}{T:Tab}{X0:Ctx}
end
section
variable {P:Program}{T:Tab}{X0:Ctx}
end
section
variable {P:Program}{T:Tab}{X0:Ctx}
end
section
variable {P:Program}{T:Tab}{X0:Ctx}
end
section
variable {P:Program}{T:Tab}{X0:Ctx}
end
section
variable {P:Program}{T:Tab}{X0:Ctx}
end
section
variable {P:Program}{T:Tab}{X0:Ctx}
end
section
variable {P:Program}{T:Tab}{X0:Ctx}
end
end
section step
variable {P:Program}{T:Tab}{X0:Ctx}
end step
theorem bA(j:Nat)(d:DV)(t:Fr)(i:Nat):look ((j,d)::t) i=if i=j then d else look t i:=rfl
theorem zPr(t:Fr)(i:Nat):evD t (.tmp i)=look t i:=rfl
theorem zHh(t:Fr)(v:Value):evD t (.const v)=SY v:=rfl
theorem zDF(t:Fr)(g:Nat):evD t (.global g)=.c (.p (.o (.pointer (some ⟨g,0,none⟩)))):=rfl
theorem zLO(t:Fr)(f:FuncId):evD t (.func f)=.c (.clo f []):=rfl
theorem zOK{α:Type}(x:α)(l:List α):(x::l)[0]?=some x:=rfl
theorem zOJ{α:Type}(x:α)(l:List α)(n:Nat):(x::l)[n+1]?=l[n]? := rfl
def sN(id:Nat)(Q:Be):Be:=λe s'=>match e with
 | .exit b=>if b=id then Q .normal s' else Q (.exit b) s'
 | e=>Q e s'
def zSA{α:Type}(n0:Nat)(I:α->DS)(J:α->Prop)(μ:α->Nat)(x:α)(Q:Be):Be:=λe s'=>match e with
 | .normal=>∃y,J y/\μ y < μ x/\SF n0 s' (I y)
 | e=>Q e s'
section
variable {P:Program}{T:Tab}{X0:Ctx}{Q:Be}{s:DS}
end
section
variable {P:Program}{T:Tab}{X0:Ctx}{Q:Be}{s:DS}
end
section
variable {P:Program}{T:Tab}{X0:Ctx}{Q:Be}{s:DS}
end
section
variable {P:Program}{T:Tab}{X0:Ctx}{Q:Be}{s:DS}
end
section
variable {P:Program}{T:Tab}{X0:Ctx}{Q:Be}{s:DS}
end
section
variable {P:Program}{T:Tab}{X0:Ctx}{Q:Be}{s:DS}
end
section
variable {P:Program}{T:Tab}{X0:Ctx}{Q:Be}{s:DS}
end
section
variable {P:Program}{T:Tab}{X0:Ctx}{Q:Be}{s:DS}
end
section
variable {P:Program}{T:Tab}{X0:Ctx}{Q:Be}{s:DS}
end
section
variable {P:Program}{T:Tab}{X0:Ctx}{Q:Be}{s:DS}
end
section
variable {P:Program}{T:Tab}{X0:Ctx}{Q:Be}{s:DS}
end
section
variable {P:Program}{T:Tab}{X0:Ctx}{Q:Be}{s:DS}
end
section
variable {P:Program}{T:Tab}{X0:Ctx}{Q:Be}{s:DS}
end
section
variable {P:Program}{T:Tab}{X0:Ctx}{Q:Be}{s:DS}
end
section
variable {P:Program}{T:Tab}{X0:Ctx}{Q:Be}{s:DS}
end
section ways
variable {P:Program}{T:Tab}{X0:Ctx}{Q:Be}{s:DS}
end ways
section
variable {P:Program}{T:Tab}{X0:Ctx}
variable {ops:Array Oper}{X:Ctx}{K:DS->Prop}{V:Nat->DV}{j k n i:Nat}{chain:List Nat}{L:Array Bool}
theorem uG(W:bQ P T){o:Oper}{s:DS}{a:Act}{Q:Exit->Act->World->Prop}{next:Act->World->Prop}(I:X.h=s.h)(hi:HInv X)(Z:Gnd P X)(J:TInv X s a)
 (h:lF P T ops [o] s K)(M:∀d v X',K (s.put o.dst d X'.h)->HInv X'->Step X X'->bH X' d v->next (a.put o.dst v) X'.w):
  if Region.wanted o (yielded ops a.tmps) then o.wp P a X.w next Q else next (a.put o.dst undef) X.w:=by
 have N:dop P T o.op s.t s.h (λd h'=>K (s.put o.dst d h'))->o.wp P a X.w next Q:=by
  intro b;rw[<- I] at b;exact EB W hi Z J.ev b λd v X' p E q h4=>M d v X' h4 p E q
 have skip:K (s.put o.dst (.tup []) s.h)->next (a.put o.dst undef) X.w:=λb=>M (.tup []) undef X (by rw[I];exact b) hi (Step.refl hi) ⟨[],rfl,True.intro⟩
 simp only[lF] at h;split at h
 .rename_i B;rw[aw (by simp[Region.wanted,B])];exact N h
 .rename_i j C B;have O:∀d,((ops[j]?).bind (·.dst)).map (λi=>look s.t i)=some d->∃i,(ops[j]?).bind (·.dst)=some i/\bH X d (a.tmps.getD i undef):=by
   intro d b;obtain⟨i,p,E⟩:=du.1 b;exact⟨i,p,E▸J.rel i⟩
  split at h
  .rename_i v b;obtain⟨i,p,q⟩:=O _ b;simp only[bH,cJ,dO] at q;have A:a.tmps[i]?=some (.bool v):=by
    rcases cc i a.tmps.size with l|F
    .rw[iz l];simp only[Array.getD,l,dif_pos] at q
     congr 1
    .rw[iu,jx F] at q;cases q
   have g:yielded ops a.tmps j=some v:=by
    unfold yielded;rw[p];simp only[j5,A]
   by_cases D:v=C
   .rw[aw (by simp[Region.wanted,B,g,D])];exact N (h.1 D)
   .rw[au (by simp[Region.wanted,B,g,D])];exact skip (h.2 D)
  .rename_i b;obtain⟨i,p,U,A,hr⟩:=O _ b;have G:U=[]:=by
    cases U with
    | nil=>rfl
    | cons _ _=>exact hr.elim
   subst G;have g:yielded ops a.tmps j=none:=by
    unfold yielded;rw[p];simp only[j5];rw[iu] at A;cases hx:a.tmps[i]? with
    | none=>rfl
    | some u=>rw[hx] at A;simp only[fe] at A;rw[A]
   rw[au (by simp[Region.wanted,B,g])];exact skip h
  .exact h.elim
def Ctx.draw(X:Ctx):Ctx:=⟨{ X.w with drawn:=X.w.drawn+1 },X.S,X.G,X.h⟩
theorem mT(hi:HInv X):Step X X.draw where
 size:=bg _
 os:=rfl
 tape:=rfl
 output:=⟨rfl,mg _⟩
 kept:=λ_ p=>⟨p,rfl⟩
 len:=bg _
 ids:=λid b _ h l=>⟨b,h,cX.refl l,rfl,(hi.blk id b h).same l⟩
 frame:=λ_ _ _=>rfl
 mine:=λid q g h l A B=>.inr ⟨id,q,g,h,l,A,B,rfl⟩
 upper:=λ_ h=>.inl h
theorem NY(hi:HInv X):HInv X.draw :=
 ⟨λb E=>hi.slt b E,λid l h=>(hi.blk id l h).move (mT hi) rfl (λ_ _=>rfl),λid l g h p q=>hi.own id l g h p q,
  λid l A B g F h p G I C q D J=>hi.inj id l A B g F h p G I C q D J⟩
def rM(S:List Nat):Fr->Fr
 | []=>[]
 | p::t=>if S.contains p.1 then p::rM S t else rM S t
theorem pA(S:List Nat)(j:Nat):∀t:Fr,look (rM S t) j=if S.contains j then look t j else .jk
 | []=>by simp[rM,look]
 | p::t=>by
  simp only[rM];by_cases g:S.contains p.1=true
  .rw[aw g];simp only[look];by_cases b:j=p.1
   .subst b;rw[aw rfl,aw rfl,aw g]
   .rw[au b,au b];exact pA S j t
  .rw[au g,pA S j t];by_cases b:j=p.1
   .subst b;rw[au g,au g]
   .simp only[look];rw[au b]
def res(s:DS):Option Tmp->DV
 | some i=>look s.t i
 | none=>.tup []
def JK(t:Fr):Option Tmp->DV->Fr
 | some i,v=>(i,v)::t
 | none,_=>t
def One(P:Program)(T:Tab)(ops:Array Oper)(n:Nat)(o:Oper)(t:Fr)(h:aF)(v:DV)(b:aF):Prop :=
 lF P T ops [o] ⟨n,rM (o.looksAt ops) t,h⟩ λs'=>s'.h=b/\res s' o.dst=v
def dZ(ops:Array Oper)(i:Nat):Option Tmp:=(ops[i]?).bind (·.dst)
def sM(ops:Array Oper)(i:Nat):List Nat:=match ops[i]? with
 | some o=>(o.after.toList.filter (Region.binds .any)).map (·.on)
 | none=>[]
def dY(ops:Array Oper):Nat->Nat->Nat->Bool
 | 0,_,_=>false
 | f+1,i,k=>(sM ops i).any λm=>m==k || dY ops f m k
def zMk(ops:Array Oper)(chain:List Nat)(i:Nat):Nat:=(chain.filter (dY ops 9 i)).length
def rW(P:Program)(T:Tab)(ops:Array Oper)(n:Nat)(chain:List Nat)(K:DS->Prop):List Nat->Fr->List aF->Prop
 | [],t,b=>∀h old,b=h::old->K ⟨n,t,h⟩
 | i::rest,t,b=>∃o h old,ops[i]?=some o/\b=h::old /\
   if chain.contains i then ∃v g,One P T ops n o t h v g/\rW P T ops n chain K rest (JK t o.dst v) (g :: b)
   else ∃v,One P T ops n o t h v h/\(∀l∈old.take (old.length-zMk ops chain i),One P T ops n o t l v l)/\rW P T ops n chain K rest (JK t o.dst v) b
def bM(ops:Array Oper)(V:Nat->DV):Fr->List Nat->Fr
 | t,[]=>t
 | t,i::l=>bM ops V (JK t (dZ ops i) (V i)) l
theorem qI{b:Nat->DV}:∀(l:List Nat) (t:Fr),(∀i∈l,V i=b i)->bM ops V t l=bM ops b t l
 | [],_,_=>rfl
 | i::l,t,h=>by
  simp only[bM];rw[h i cz];exact qI l _ λk g=>h k (cu _ g)
section
variable {P:Program}{T:Tab}{X0:Ctx}
end
theorem fS: ∀(l:List Nat) (t:Fr),(∀k∈l,dZ ops k≠some j)->look (bM ops V t l) j=look t j
 | [],_,_=>rfl
 | i::l,t,h=>by
  simp only[bM];rw[fS l _ λk b=>h k (cu _ b)];have:=h i cz;cases g:dZ ops i with
  | none=>rfl
  | some d =>
   simp only[JK,look];rw[au];rintro rfl;exact this g
theorem iS(A:dZ ops k=some j):∀(l:List Nat) (t:Fr),k∈l->(∀k'∈l,dZ ops k'=some j->k'=k)->look (bM ops V t l) j=V k
 | [],_,h,_=>by cases h
 | i::l,t,h,B=>by
  simp only[bM];by_cases g:k∈l
  .exact iS A l _ g λk' b=>B k' (cu _ b)
  .have p:k=i:=by rcases bx.1 h with h|h;exact h;exact absurd h g
   subst p;rw[fS l _ λk' b q=>g (B k' (cu _ b) q▸b),A];simp only[JK,look];rw[aw trivial]
def cnt(chain l:List Nat):Nat:=(l.filter chain.contains).length
def Good(P:Program)(T:Tab)(ops:Array Oper)(n:Nat)(chain:List Nat)(V:Nat->DV)(H:Nat->aF)(t:Fr)(c i:Nat):Prop :=
 ∃o,ops[i]?=some o/\if chain.contains i then One P T ops n o t (H c) (V i) (H (c+1)) else ∀s,zMk ops chain i<=s->s<=c->One P T ops n o t (H s) (V i) (H s)
theorem EE: ∀(rest:List Nat) (t:Fr) (G:List aF) (c:Nat),G.length=c+1->rest.Nodup->rW P T ops n chain K rest t G ->
  ∃ (V:Nat->DV) (H:Nat->aF),(∀k,k<=c->some (H k)=G[c-k]?)/\(∀pre i b,rest=pre++i::b->Good P T ops n chain V H (bM ops V t pre) (c+cnt chain pre) i) /\
   K ⟨n,bM ops V t rest,H (c+cnt chain rest)⟩
 | [],t,G,c,I,_,h=>by
  match G,I with
  | U::old,I =>
   simp only[bw,Nat.add_right_cancel_iff] at I;refine⟨λ_=>.jk,λk=>((U::old)[c-k]?).getD [],λk A=>?_,λpre i b e=>by simp at e,?_⟩
   .have:c-k<(U::old).length:=by simp;omega
    simp only[ay this,fe]
   .have:=h U old rfl;simp only[bM,cnt,mn,da,je,jg,eu,fe];exact this
 | i::rest,t,G,c,I,M,h=>by
  obtain⟨o,U,old,Z,rfl,h⟩:=h;have B:i ∉ rest:=(ja.1 M).1;have C:=(ja.1 M).2;have W:dZ ops i=o.dst:=by simp[dZ,Z]
  have hold:old.length=c:=by simpa using I
  by_cases g:chain.contains i=true
  .rw [aw g] at h;obtain⟨v,h',h1,h2⟩:=h;obtain⟨V,H,J,hG,hK⟩:=EE rest _ _ (c+1) (by simp[hold]) C h2;have N:∀l:List Nat,(∀k∈l,k∈rest)->∀t,bM ops (λk=>if k=i then v else V k) t l=bM ops V t l:=λl hl t=>qI l t λk A=>by
    rw[au];rintro rfl;exact B (hl _ A)
   have p:∀l,c+cnt chain (i::l)=c+1+cnt chain l:=λl=>by simp only[cnt,fc,g,az,bw];omega
   refine⟨λk=>if k=i then v else V k,H,λk A=>?_,λpre D b e=>?_,?_⟩
   .have:=J k qd;rw[this,show c+1-k=(c-k)+1 by omega,fp]
   .cases pre with
    | nil =>
     simp only[e9,fk] at e;obtain⟨rfl,_⟩:=e;refine⟨o,Z,?_⟩;rw[aw g];simp only[bM,cnt,mn,da,je,az];have E:=J c qd;have e2:=J (c+1) qd;rw[show c+1-c=0+1 by omega,fp,eu] at E
     rw[jg,eu] at e2;cases E;cases e2;exact h1
    | cons x pre =>
     simp only[gn,fk] at e;obtain⟨rfl,e⟩:=e;have q:∀k∈pre,k∈rest:=λk A=>by rw[e];exact fg _ A
     have F:D∈rest:=by rw[e];exact jy _ cz
     have:=hG pre D b e;simp only[bM,az,W];rw[N pre q,p];simp only[Good] at this ⊢;rw[au (show ¬ D=i from λhe=>B (he▸F))]
     exact this
   .simp only[bM,az,W];rw[N rest (λ_ h=>h),p];exact hK
  .rw [au g] at h;obtain⟨v,h1,h3,h2⟩:=h;obtain⟨V,H,J,hG,hK⟩:=EE rest _ _ c I C h2;have N:∀l:List Nat,(∀k∈l,k∈rest)->∀t,bM ops (λk=>if k=i then v else V k) t l=bM ops V t l:=λl hl t=>qI l t λk A=>by
    rw[au];rintro rfl;exact B (hl _ A)
   have p:∀l,c+cnt chain (i::l)=c+cnt chain l:=λl=>by simp only[cnt,fc,g];simp
   refine⟨λk=>if k=i then v else V k,H,J,λpre D b e=>?_,?_⟩
   .cases pre with
    | nil =>
     simp only[e9,fk] at e;obtain⟨rfl,_⟩:=e;refine⟨o,Z,?_⟩;rw[au g];intro s hs1 O;simp only[bM,cnt,mn,da,je,az] at O ⊢;have E:=J s O;rcases cc s c with hlt|hge
     .rw[show c-s=(c-s-1)+1 by omega,fp] at E
      refine h3 _ (eh.2 ⟨c-s-1,?_⟩);rw[gq,aw qd,E]
     .have:s=c:=qd
      subst this;rw[jg,eu] at E;cases E;exact h1
    | cons x pre =>
     simp only[gn,fk] at e;obtain⟨rfl,e⟩:=e;have q:∀k∈pre,k∈rest:=λk A=>by rw[e];exact fg _ A
     have F:D∈rest:=by rw[e];exact jy _ cz
     have:=hG pre D b e;simp only[bM,az,W];rw[N pre q,p];simp only[Good] at this ⊢;rw[au (show ¬ D=i from λhe=>B (he▸F))]
     exact this
   .simp only[bM,az,W];rw[N rest (λ_ h=>h),p];exact hK
def NN(ops:Array Oper):List Nat->Bool
 | []=>true
 | e::es=>es.all (λe'=>dY ops 9 e' e) && NN ops es
def zFl(ops:Array Oper)(chain:List Nat)(i:Nat)(pre b:List Nat):Bool :=
 (sM ops i).all pre.contains &&
 (b.all λe=>!chain.contains e || dY ops 9 e i) &&
 (match ops[i]? with
  | some o=>(o.looksAt ops).all λj=>(pre.all λk=>!(dZ ops k==some j) || dY ops 9 i k) && (b.all λk=>!(dZ ops k==some j) || dY ops 9 k i)
  | none=>false) &&
 (match dZ ops i with
  | some j=>b.all λk=>!(dZ ops k==some j)
  | none=>true) &&
 !b.contains i
def zKs(ops:Array Oper)(chain:List Nat):List Nat->List Nat->Bool
 | _,[]=>true
 | g,i::b=>zFl ops chain i g b && zKs ops chain (g++[i]) b
def vA(ops:Array Oper)(n:Nat)(chain order:List Nat):Bool :=
 decide (order.length<=ops.size) && ((List.range ops.size).all λi=>order.contains i && match dZ ops i with|some x=>decide (x<n)|none=>true) && (order.filter chain.contains==chain) && NN ops chain && zKs ops chain [] order
theorem zBP: ∀(l g:List Nat),zKs ops chain g l=true->∀pre i b,l=pre++i::b->zFl ops chain i (g++pre) b=true
 | [],_,_,pre,i,b,e=>by simp at e
 | x::l,g,h,pre,i,b,e=>by
  simp only[zKs,bn] at h;cases pre with
  | nil =>
   simp only[e9,fk] at e;obtain⟨rfl,rfl⟩:=e;simpa using h.1
  | cons y pre =>
   simp only[gn,fk] at e;obtain⟨rfl,e⟩:=e;have:=zBP l (g++[x]) h.2 pre i b e;simpa using this
def zBM(ops:Array Oper)(L:Array Bool):Prop:=∀i,L.getD i false=true->∀k∈sM ops i,L.getD k false=true
theorem qY(b:zBM ops L):∀(f i k:Nat),(∀m∈sM ops i,L.getD m false=true)->dY ops f i k=true->L.getD k false=true
 | 0,_,_,_,h=>by cases h
 | f+1,i,k,g,h=>by
  simp only[dY,jj,fj,dq] at h;obtain⟨m,l,h⟩:=h;rcases h with rfl|h
  .exact g _ l
  .exact qY b f m k (b m (g m l)) h
theorem WY: k∈sM ops i↔∃o,ops[i]?=some o/\∃e∈o.after,Region.binds .any e=true/\e.on=k:=by
 unfold sM;cases p:ops[i]? with
 | none=>simp
 | some o =>
  simp only[cg,dy,Array.mem_toList_iff,b0,exists_eq_left'];constructor
  .rintro⟨e,⟨b,g⟩,l⟩;exact⟨e,b,g,l⟩
  .rintro⟨e,b,g,l⟩;exact⟨e,⟨b,g⟩,l⟩
theorem mD(h:i∈Region.ready .any ops L):L.getD i true=false/\(∃o,ops[i]?=some o)/\∀k∈sM ops i,L.getD k false=true:=by
 obtain⟨l,o,g,p⟩:=mem_ready.1 h;refine⟨l,⟨o,g⟩,λk q=>?_⟩;obtain⟨C,b,e,A,B,rfl⟩:=WY.1 q;rw[g] at b;cases b;exact p e A B
theorem QW(h1:L.getD i true=false)(b:i<ops.size)(g:∀k∈sM ops i,L.getD k false=true):i∈Region.ready .any ops L :=
 mem_ready.2 ⟨h1,ops[i],iz b,λe l p=>g _ (WY.2 ⟨_,iz b,e,l,p,rfl⟩)⟩
structure RInv (P:Program) (X0:Ctx) (ops:Array Oper) (n:Nat) (chain:List Nat) (V:Nat->DV) (H:Nat->aF) (t0:Fr) (L:Array Bool) (X:Ctx) (a:Act):Prop where
 size:L.size=ops.size
 closed:zBM ops L
 hh:X.h=H (chain.filter λe=>L.getD e false).length
 hi:HInv X
 hs:Step X0 X
 sz:a.tmps.size=n
 defs:a.defers=[]
 relA:∀k j,L.getD k false=true->dZ ops k=some j->bH X (V k) (a.tmps.getD j undef)
 relB:∀j,(∀k,L.getD k false=true->dZ ops k≠some j)->bH X (look t0 j) (a.tmps.getD j undef)
theorem dD(h:i<L.size)(d:Bool):(L.setIfInBounds i true).getD i d=true:=by
 simp[h]
theorem gH(h:(L.setIfInBounds i true).getD k false=true):k=i∨L.getD k false=true:=by
 by_cases b:i=k
 .exact .inl b.symm
 .rw[getD_set_ne false b] at h;exact .inr h
theorem lV{α:Type}(p q:α->Bool):∀(l:List α),(∀x∈l,p x=true->q x=true)->(l.filter p).length<=(l.filter q).length
 | [],_=>bg _
 | x::l,h=>by
  have A:=lV p q l λy g=>h y (cu _ g);simp only[fc];by_cases b:p x=true
  .rw[aw b,aw (h x cz b)];simp only[bw];omega
  .rw[au b];split<;>(try simp only[bw])<;>omega
theorem qD{α:Type}(p q:α->Bool)(l:List α)(h:∀x∈l,p x=q x):(l.filter p).length=(l.filter q).length:=by
 rw[nv h]
structure PlanAt (ops:Array Oper) (n:Nat) (chain order:List Nat):Prop where
 all:∀i o,ops[i]?=some o->i∈order
 dlt:∀i x,dZ ops i=some x->x<n
 chn:order.filter chain.contains=chain
 prs:∀A e B,chain=A++e::B->∀k∈A,dY ops 9 e k=true
 len:order.length<=ops.size
 at_:∀pre i post,order=pre++i::post->zFl ops chain i pre post=true
theorem JW: ∀(l:List Nat),NN ops l=true->∀A e B,l=A++e::B->∀k∈A,dY ops 9 e k=true
 | [],_,A,e,B,h,_,_=>by simp at h
 | x::l,g,A,e,B,h,k,b=>by
  simp only[NN,bn,fb] at g;cases A with
  | nil=>cases b
  | cons y A =>
   simp only[gn,fk] at h;obtain⟨rfl,rfl⟩:=h;rcases bx.1 b with rfl|b
   .exact g.1 e ql
   .exact JW _ g.2 A e B rfl k b
theorem GB{order:List Nat}(h:vA ops n chain order=true):PlanAt ops n chain order:=by
 simp only[vA,bn,fb,List.mem_range,dq,ew] at h;obtain⟨⟨⟨⟨A,p⟩,B⟩,C⟩,D⟩:=h;refine⟨λi o g=>?_,λi x q=>?_,B,JW _ C,A,λl i b e=>by simpa using zBP order [] D l i b e⟩
 .have:=(p i (im.1 g).1).1;simpa using this
 .have g:i<ops.size:=by
   rcases cc i ops.size with h|h
   .exact h
   .simp[dZ,jx h] at q
  have:=(p i g).2;rw[q] at this;simpa using this
section plan
variable {ops:Array Oper}{n:Nat}{chain order:List Nat}
variable {j:Nat}{a:Act}{o:Option Tmp}{v:Value}{V:Nat->DV}{H:Nat->aF}{t0:Fr}
theorem PlanAt.uniq(D:PlanAt ops n chain order){k k':Nat}{j:Tmp}(E:k∈order)(b:k'∈order)(h:dZ ops k=some j)(C:dZ ops k'=some j):k'=k:=by
 obtain ⟨A,g,e⟩:=jr E;rw[e] at b;have l:∀x y p q,order=p++x::q->dZ ops x=some j->y∈q->dZ ops y=some j->False:=by
  intro x y p q e F G B;have:=D.at_ p x q e;simp only[zFl,bn,F,fb,dg,ji] at this;exact this.1.2 y G B
 rcases c9.1 b with b|b
 .obtain⟨I,J,M⟩:=jr b;exact(l k' k I (J++k::g) (by rw[e,M];simp) C ql h).elim
 .rcases bx.1 b with rfl|b
  .rfl
  .exact(l k k' A g e h b C).elim
theorem PlanAt.nodup(p:PlanAt ops n chain order):order.Nodup:=by
 suffices h:∀(l b:List Nat),order=b++l->l.Nodup from h order [] rfl
 intro l
 induction l with
 | nil=>intro _ _;exact List.nodup_nil
 | cons i l q =>
  intro b e;refine ja.2 ⟨λA=>?_,q (b++[i]) (by simpa using e)⟩;have:=p.at_ b i l e;simp only[zFl,bn,dg] at this;have g:=this.2;simp at g;exact g A
theorem zM(h:o≠some j):(a.put o v).tmps.getD j undef=a.tmps.getD j undef:=by
 cases o with
 | none=>rfl
 | some i =>
  have b:i≠j:=λe=>h (by rw[e]);simp only[Act.put];rw[iu,qc b,<- iu]
theorem QR(h:j<a.tmps.size):(a.put (some j) v).tmps.getD j undef=v:=by
 simp only[Act.put];rw[iu,py h];rfl
theorem QS: (a.put o v).tmps.size=a.tmps.size:=by cases o<;>simp[Act.put]
theorem QQ: (a.put o v).defers=a.defers:=by cases o<;>rfl
theorem zDv(hT:bQ P T)(gd:Gnd P X0)(I:PlanAt ops n chain order)(hG:∀pre i post,order=pre++i::post->Good P T ops n chain V H (bM ops V t0 pre) (cnt chain pre) i)
 {L:Array Bool}{X:Ctx}{Q:Exit->Act->World->Prop}(l:RInv P X0 ops n chain V H t0 L X a){i:Nat}(hi:i∈Region.ready .any ops L){next:Act->World->Prop}
 (hn:∀X' a',RInv P X0 ops n chain V H t0 (L.setIfInBounds i true) X' a'->next a' X'.w):wpOp P ops Q i next a X.w:=by
 obtain⟨hiL,⟨o,O⟩,hpr⟩:=mD hi;have q:L.getD i false=false:=getD_both hiL;have M:i<L.size:=by rw[l.size];exact(im.1 O).1
 obtain⟨pre,post,e⟩:=jr (I.all i o O);have hat:=I.at_ pre i post e;simp only[zFl,O,bn,fb,fj,dg] at hat;obtain⟨⟨⟨⟨_,J⟩,U⟩,_⟩,hnp⟩:=hat;have A:dZ ops i=o.dst:=by simp[dZ,O]
 have D:i ∉ post:=by simpa using hnp
 have waiting:∀k,L.getD k false=true->dY ops 9 k i=false:=λk g=>by
  cases hw:dY ops 9 k i with
  | false=>rfl
  | true =>
   have:=qY l.closed 9 k i (l.closed k g) hw;rw[q] at this;cases this
 have waited:∀k,dY ops 9 i k=true->L.getD k false=true:=λk g=>qY l.closed 9 i k hpr g;have hch:chain=pre.filter chain.contains++((i::post).filter chain.contains):=by
  conv=>lhs;rw[<- I.chn,e,fq]
 have B:∀k∈post.filter chain.contains,L.getD k false=false:=λk g=>by
  obtain⟨W,h2⟩:=dy.1 g;cases hl:L.getD k false with
  | false=>rfl
  | true =>
   rcases J k W with h|h
   .rw[h2] at h;cases h
   .rw[waiting k hl] at h;cases h
 obtain ⟨o',ho',p⟩:=hG pre i post e;rw[O] at ho';cases ho';have tin:∀h,X.h=h->TInv X ⟨n,rM (o.looksAt ops) (bM ops V t0 pre),h⟩ a:=by
  intro h _;refine⟨l.sz,λj=>?_,l.defs⟩;simp only[pA];split
  .rename_i hj;have hj':j∈o.looksAt ops:=by simpa using hj
   obtain⟨l1,l2⟩:=U j hj';by_cases g:∃k∈pre,dZ ops k=some j
   .obtain ⟨k,E,b⟩:=g;have F:L.getD k false=true:=by
     rcases l1 k E with h|h
     .rw[b] at h;simp at h
     .exact waited k h
    rw[iS b pre t0 E λk' hk' hd'=>I.uniq (e▸fg _ E) (e▸fg _ hk') b hd'];exact l.relA k j F b
   .rw [fS pre t0 λk E b=>g ⟨k,E,b⟩];refine l.relB j λk F b=>?_;have hko:k∈order:=by
     unfold dZ at b;cases G:ops[k]? with
     | none=>rw[G] at b;cases b
     | some ok=>exact I.all k ok G
    rw[e] at hko;rcases c9.1 hko with h|h
    .exact g ⟨k,h,b⟩
    .rcases bx.1 h with rfl|h
     .rw[q] at F;cases F
     .rcases l2 k h with h'|h'
      .rw[b] at h';simp at h'
      .rw[waiting k F] at h';cases h'
  .exact True.intro
 have fin:∀h',One P T ops n o (bM ops V t0 pre) X.h (V i) h'->h'=H (chain.filter λk=>(L.setIfInBounds i true).getD k false).length->wpOp P ops Q i next a X.w:=by
  intro h' C hh';have:=uG (Q:=Q) (next:=next) hT (s:=⟨n,rM (o.looksAt ops) (bM ops V t0 pre),X.h⟩) rfl l.hi (gd.step l.hs) (tin _ rfl) C ?_
  .unfold wpOp;simp only[O];split
   .rename_i hw;rw[aw hw] at this;exact .inl this
   .rename_i hw;rw[au hw] at this;exact this
  .intro d v X' g hi' Z hr;obtain⟨k1,k2⟩:=g;have k1':X'.h=h':=by rw[<- k1];unfold DS.put;split<;>(try split)<;>rfl
   refine hn X' _ ⟨by simp[l.size],λx hx k g=>?_,by rw[k1',hh'],hi',l.hs.trans l.hi Z,by rw[QS];exact l.sz,by rw[QQ];exact l.defs,λk j g b=>?_,λj hj=>?_⟩
   .rcases gH hx with rfl|hx
    .exact getD_set_true (hpr k g)
    .exact getD_set_true (l.closed x hx k g)
   .rcases gH g with rfl|g
    .rw[A] at b;have hjn:j<n:=I.dlt k j (by rw[A];exact b);simp only[b,DS.put,aw hjn,res,look,az] at k2;rw[b,QR (by rw[l.sz];exact hjn),<- k2];exact hr
    .rw [zM]
     .exact(l.relA k j g b).step Z
     .intro hd;have:k=i:=I.uniq (I.all i o O) (by
       unfold dZ at b;cases G:ops[k]? with
       | none=>rw[G] at b;cases b
       | some ok=>exact I.all k ok G) (A.trans hd) b
      rw[this,q] at g;cases g
   .rw[zM]
    .exact(l.relB j λk g=>hj k (getD_set_true g)).step Z
    .rw[<- A];exact hj i (dD M false)
 have hAL:((pre.filter chain.contains).filter λk=>L.getD k false).length=(chain.filter λk=>L.getD k false).length:=by
  conv=>rhs;rw[hch]
  rw [fq,bo];have:((i::post).filter chain.contains).filter (λk=>L.getD k false)=[]:=by
   rw[js];intro k g;obtain⟨W,h2⟩:=dy.1 g;rcases bx.1 W with rfl|W
   .rw[q];simp
   .rw[B k (dy.2 ⟨W,h2⟩)];simp
  rw[this];rfl
 by_cases hc:chain.contains i=true
 .rw [aw hc] at p;have N:chain=pre.filter chain.contains++i::post.filter chain.contains:=by
   conv=>lhs;rw[hch,fc,aw hc]
  have hA:∀k∈pre.filter chain.contains,L.getD k false=true:=λk g=>waited k (I.prs _ _ _ N k g);have hcn:cnt chain pre=(chain.filter λk=>L.getD k false).length:=by
   rw[<- hAL,fw.2 hA];rfl
  rw[hcn,<- l.hh] at p;refine fin _ p ?_
  congr 1
  rw[<- hcn]
  conv=>rhs;rw[N,fq,fc,aw (dD M false)]
  have W:(pre.filter chain.contains).filter (λk=>(L.setIfInBounds i true).getD k false)=pre.filter chain.contains:=fw.2 λk g=>getD_set_true (hA k g);have h2:(post.filter chain.contains).filter (λk=>(L.setIfInBounds i true).getD k false)=[]:=by
   rw[js];intro k g;have hki:i≠k:=λe=>D (e▸(dy.1 g).1);rw[getD_set_ne false hki,B k g];simp
  rw[W,h2];simp[cnt]
 .rw[au hc] at p;have C:=p (chain.filter λk=>L.getD k false).length (lV _ _ _ λk _ g=>waited k g) (by rw[<- hAL];exact ei _ _);rw[<- l.hh] at C;refine fin _ C ?_;rw[l.hh]
  congr 1
  refine qD _ _ _ λk g=>?_;have hki:i≠k:=by rintro rfl;exact hc (by simpa using g)
  rw[getD_set_ne false hki]
theorem zGq(hT:bQ P T)(gd:Gnd P X0)(G:PlanAt ops n chain order)(hG:∀pre i b,order=pre++i::b->Good P T ops n chain V H (bM ops V t0 pre) (cnt chain pre) i)
 {Q:Be}(hK:Q .normal ⟨n,bM ops V t0 order,H (cnt chain order)⟩):∀(B:Nat) (L:Array Bool) (X:Ctx) (a:Act),RInv P X0 ops n chain V H t0 L X a ->
   (order.filter λk=>!L.getD k true).length<=B->wpAny P .any ops (zE0 X0 Q) B L a X.w:=by
 have done:∀(L:Array Bool) (X:Ctx) (a:Act),RInv P X0 ops n chain V H t0 L X a->Region.ready .any ops L=[]->zE0 X0 Q .normal a X.w:=by
  intro L X a C F;have N:∀(b pre:List Nat),order=pre++b->(∀k∈pre,L.getD k false=true)->∀k∈order,L.getD k false=true:=by
   intro b
   induction b with
   | nil=>intro pre e h k g;rw[e,dh] at g;exact h k g
   | cons i b U =>
    intro pre e h;refine U (pre++[i]) (by simpa using e) λk g=>?_;rcases c9.1 g with g|g
    .exact h k g
    .rw [ep] at g;subst g;have I:=G.at_ pre k b e;simp only[zFl,bn,fb] at I;cases hl:L.getD k false with
     | true=>rfl
     | false =>
      have g:k<ops.size:=by
       have:=I.1.1.2;cases D:ops[k]? with
       | none=>rw[D] at this;cases this
       | some ok=>exact(im.1 D).1
      have:k∈Region.ready .any ops L:=QW (getD_in (by rw[C.size];exact g) hl) g λm W=>h m (by simpa using I.1.1.1.1 m W);rw[F] at this;cases this
  have hL:=N order [] rfl (λk g=>by cases g)
  refine⟨_,X,hK,rfl,?_,C.hi,C.hs,C.sz,λj=>?_,C.defs⟩
  .rw[C.hh];simp only[cnt,G.chn];rw[fw.2];intro k g;rw[<- G.chn] at g;exact hL k (dy.1 g).1
  .by_cases g:∃k∈order,dZ ops k=some j
   .obtain⟨k,E,A⟩:=g;simp only;rw[iS A order t0 E λk' Z hd'=>G.uniq E Z A hd'];exact C.relA k j (hL k E) A
   .simp only;rw[fS order t0 λk E A=>g ⟨k,E,A⟩];refine C.relB j λk _ A=>g ⟨k,?_,A⟩;unfold dZ at A;cases D:ops[k]? with
    | none=>rw[D] at A;cases A
    | some ok=>exact G.all k ok D
 have mem_count:∀(L:Array Bool) i,i∈Region.ready .any ops L->i∈order.filter λk=>!L.getD k true:=λL i M=>by
  obtain⟨h1,⟨o,h2⟩,_⟩:=mD M;exact dy.2 ⟨G.all i o h2,by rw[h1];rfl⟩
 intro B
 induction B with
 | zero =>
  intro L X a C hc;have F:Region.ready .any ops L=[]:=by
   cases F:Region.ready .any ops L with
   | nil=>rfl
   | cons i l =>
    have:=mem_count L i (by rw[F];exact cz);rw[j8.1 (Nat.le_zero.1 hc)] at this;cases this
  exact⟨F,done L X a C F⟩
 | succ B U =>
  intro L X a C hc;refine⟨λF=>done L X a C F,λi M=>zDv hT gd G hG C M λX' a' hR'=>U _ X' a' hR' ?_⟩;have W:=mem_count L i M;obtain⟨hiL,⟨o,ho⟩,_⟩:=mD M;obtain⟨p,q,e⟩:=jr W;have O:(order.filter λk=>!(L.setIfInBounds i true).getD k true)=(order.filter λk=>!L.getD k true).filter λk=>!(k==i):=by
   rw[o4];refine nv λk g=>?_;by_cases J:i=k
   .subst J;rw[dD (by rw[C.size];exact(im.1 ho).1)];simp
   .rw[getD_set_ne true J];have:(k==i)=false:=by simpa using λe=>J e.symm
    rw[this];simp
  rw[O,e,fq,fc];rw[e,bo,bw] at hc;simp only[fa,bh,av,ax,bo];have h1:=ei (λk=>!(k==i)) p;have h2:=ei (λk=>!(k==i)) q;omega
end plan
theorem zJI(E:bQ P T)(F:P.follows .mixedOrders=true){Q:Be}{s:DS}{id:Nat}{ops:Array Oper}(chain order:List Nat)(b:vA ops s.n chain order=true)
  (h:rW P T ops s.n chain (λs'=>Q .normal s') order s.t [s.h]):SWP P X0 (.region id ops true) s Q:=by
 intro G X a I l J p;have b:=GB b;obtain⟨V,H,M,A,B⟩:=EE order s.t [s.h] 0 rfl b.nodup h;simp only[fm] at A B;have C:=M 0 (bg _);simp only[jg,eu,b0] at C;refine wp_region_any F (zGq E G b A B _ _ X.draw a ?_ ?_)
 .have q:∀k,(Array.replicate ops.size false).getD k false=false:=getD_replicate_false _;refine⟨ql,λi g=>?_,?_,NY l,J.trans l (mT l),p.size,p.defs,λk j D=>?_,λj _=>(p.rel j).step (mT l)⟩
  .rw[q] at g;cases g
  .have:(chain.filter λe=>(Array.replicate ops.size false).getD e false)=[]:=by
    rw[js];intro k _;rw[q];simp
   rw[this,da,C];exact I
  .rw[q] at D;cases D
 .refine bj (ei _ _) ?_;exact b.len
end
section
variable {P:Program}{T:Tab}{X0:Ctx}{ops:Array Oper}{n:Nat}{chain:List Nat}{K:DS->Prop}
variable {t:Fr}{h:aF}{old:List aF}{i:Nat}{rest:List Nat}{o:Oper}
theorem zK6(g:K ⟨n,t,h⟩):rW P T ops n chain K [] t (h::old):=by
 intro l b e;cases e;exact g
theorem VC(v:DV)(g:ops[i]?=some o)(l:chain.contains i=false)(h1:One P T ops n o t h v h)
 (p:∀b∈old.take (old.length-zMk ops chain i),One P T ops n o t b v b)(q:rW P T ops n chain K rest (JK t o.dst v) (h::old)):rW P T ops n chain K (i::rest) t (h::old):=by
 refine⟨o,h,old,g,rfl,?_⟩;rw[au (by rw[l];simp)];exact⟨v,h1,p,q⟩
theorem zPk(v:DV)(b:aF)(g:ops[i]?=some o)(l:chain.contains i=true)(h1:One P T ops n o t h v b)
 (p:rW P T ops n chain K rest (JK t o.dst v) (b :: h::old)):rW P T ops n chain K (i::rest) t (h::old):=by
 refine⟨o,h,old,g,rfl,?_⟩;rw[aw l];exact⟨v,b,h1,p⟩
section
variable {P:Program}{T:Tab}{X0:Ctx}{ops:Array Oper}{n:Nat}{chain:List Nat}{K:DS->Prop}
end
section
variable {P:Program}{T:Tab}{X0:Ctx}{ops:Array Oper}{n:Nat}{chain:List Nat}{K:DS->Prop}
end
section
variable {P:Program}{T:Tab}{X0:Ctx}{ops:Array Oper}{n:Nat}{chain:List Nat}{K:DS->Prop}
end
end
section
variable {X:Ctx}{v:Value}
def wkP(x y:PV):Prop:=x=y∨(x=.nil/\∃k,y=.sl k [])
def wkC: CV->CV->Prop
 | .p x,.p y=>wkP x y
 | x,y=>x=y
def zE7: Bf->Bf->Prop
 | [],[]=>True
 | x::b,y::g=>wkC x y/\zE7 b g
 | _,_=>False
def wkE: EV->EV->Prop
 | .c x,.c y=>wkC x y
 | .agg b,.agg g=>zE7 b g
 | _,_=>False
def zQ6: Bj->Bj->Prop
 | [],[]=>True
 | x::b,y::g=>wkE x y/\zQ6 b g
 | _,_=>False
def wkD: DV->DV->Prop
 | .c x,.c y=>wkC x y
 | .agg b,.agg g=>zE7 b g
 | .tup b,.tup g=>zQ6 b g
 | .jk,.jk=>True
 | _,_=>False
theorem wkP.rfl{x:PV}:wkP x x:=.inl (Eq.refl x)
theorem zKi{k:Nat}:wkP .nil (.sl k []):=.inr ⟨rfl,k,rfl⟩
theorem wkC.rel{x y:CV}(h:wkC x y)(b:cJ X x v):cJ X y v:=by
 unfold wkC at h;split at h
 .rcases h with rfl|⟨rfl,k,rfl⟩
  .exact b
  .simp only[cJ] at b ⊢;exact dO.nilOf k b
 .subst h;exact b
theorem zE7.rel: ∀{g l:Bf} {vs:Bb},zE7 g l->bP X g vs->bP X l vs
 | [],[],_,_,h=>h
 | _::_,_::_,_::_,h,b=>⟨h.1.rel b.1,zE7.rel h.2 b.2⟩
 | _::_,_::_,[],_,b=>b.elim
theorem wkE.rel{x y:EV}(h:wkE x y)(b:fK X x v):fK X y v:=by
 unfold wkE at h;split at h
 .exact wkC.rel h b
 .obtain⟨g,rfl,l⟩:=b;exact⟨g,rfl,zE7.rel h l⟩
 .exact h.elim
theorem zQ6.rel: ∀{g l:Bj} {vs:Bb},zQ6 g l->cY X g vs->cY X l vs
 | [],[],_,_,h=>h
 | _::_,_::_,_::_,h,b=>⟨wkE.rel h.1 b.1,zQ6.rel h.2 b.2⟩
 | _::_,_::_,[],_,b=>b.elim
theorem wkD.rel{x y:DV}(h:wkD x y)(b:bH X x v):bH X y v:=by
 unfold wkD at h;split at h
 .exact wkC.rel h b
 .obtain⟨g,rfl,l⟩:=b;exact⟨g,rfl,zE7.rel h l⟩
 .obtain⟨g,rfl,l⟩:=b;exact⟨g,rfl,zQ6.rel h l⟩
 .exact True.intro
 .exact h.elim
theorem aG{P:Program}{f:FuncId}{args:Bi}{h:aF}{R:Bd}(C:aA P f args h λd D=>∃d',wkD d d'/\R d' D):aA P f args h R:=by
 intro X vals E F G I;rcases C X vals E F G I with⟨b,g⟩|⟨v,J,b,g⟩
 .refine .inl ⟨b,g.mono λe J M=>?_⟩;obtain⟨v,rfl,d,X',rfl,l,p,q,d',A,B⟩:=M;exact⟨v,rfl,d',X',rfl,l,p,A.rel q,B⟩
 .obtain⟨d,X',rfl,l,p,q,d',A,B⟩:=g;exact .inr ⟨v,X'.w,b,d',X',rfl,l,p,A.rel q,B⟩
theorem AJ: ∀l:Ba,bytesOf (bS l)=some l
 | []=>rfl
 | b::l=>by
  have:=AJ l;simp only[bS] at this ⊢;simp only[dt,bytesOf,byteOf,ix,this];simp
theorem zK7(l:Ba):(bS l).length=l.length:=rm
theorem zAE(a b:Ba):bS (a++b)=bS a++bS b:=rm
theorem zGv(a:Ba)(n:Nat):(bS a).take n=bS (a.take n):=rm
theorem zGs(a:Ba)(n:Nat):(bS a).drop n=bS (a.drop n):=rm
theorem zK8(l:Ba):∀x∈bS l,x.length=1:=by
 intro x g;simp only[bS,cg] at g;obtain⟨b,_,rfl⟩:=g;rfl
theorem zIp(b:UInt8)(l:Ba)(K:Bool->Prop):zIo (.sl 1 (bS (b::l))) K=K false:=rfl
theorem zIq(K:Bool->Prop):zIo (.sl 1 (bS [])) K=(K true/\K false):=rfl
theorem zMA(K:Bool->Prop):zIo .nil K=K true:=rfl
theorem XE(k:Nat)(e:List PV)(es:Bc)(K:Bool->Prop):zIo (.sl k (e::es)) K=K false:=rfl
theorem zBa(k:Nat)(K:Bool->Prop):zIo (.sl k []) K=(K true/\K false):=rfl
theorem jJ: bS []=[]:=rfl
end
end Go.Dm
end
end
