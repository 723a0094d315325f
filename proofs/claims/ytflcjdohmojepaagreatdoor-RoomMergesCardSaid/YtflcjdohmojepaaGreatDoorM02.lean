/- Part 3 of the proof of roomMerges_card, set without needless blanks. No condition. -/
import Derived.Test.YtflcjdohmojepaaGreatDoorM01
import Derived.Deep.LoopGhost
import Derived.StillTail
import Derived.MapKept
set_option linter.all false
set_option maxRecDepth 100000
set_option maxHeartbeats 16000000
section
section
namespace Go.Dm
open Go
section app
variable {P:Program}{T:Tab}{X:Ctx}{K:DV->aD->Prop}
variable {u e' c t e:Nat}{news:List (List PV)}{nvs:List Value}{xa:Option Addr}{vd:Value}
theorem zLB(hT:bM P T){k n:Nat}(hu:(T u).k=.slice e'){a:Option Addr}{vs:List Value}{w:World}{S:Nat->Prop}(hn:news.length=n)(hr:bQ w S news.flatten vs)(hl:∀e∈news,e.length=k)
 (ha:a=none->news=[])(hc:∀ad,a=some ad->∀(j:Nat) (v:Value),vs[j]?=some v->w.cell? (ad.add j)=some v):Src P k u (.slice a n c) n vs w:=by
 cases a with
 | none =>
  have:=ha rfl;subst this;cases vs with
  | nil=>simp only[List.length_nil] at hn;subst hn;exact Src.ofNil w (bB hT hu) c
  | cons _ _=>exact hr.elim
 | some ad=>exact Src.ofSlice w (bB hT hu) ad n c vs (by rw[hr.length_flatten hl,hn]) (hc ad rfl) hr.oneCell
theorem mI(hT:bM P T)(hi:HInv X)(ht:(T t).k=.slice e)(he:(T e).size≠0){base:Option Addr}{sLen sCap m:Nat}{olds:List (List PV)}{ovs:List Value}{ty:TypeId}
 (hol:∀x∈olds,x.length=(T e).size)(hnl:∀x∈news,x.length=(T e).size)(hor:bQ X.w X.S olds.flatten ovs)(hnr:bQ X.w X.S news.flatten nvs)(hole:olds.length=sLen)(hnle:news.length=m)
 (hold:(Builtin.firstCells (T e).size sLen (.slice base sLen sCap)).run P X.w.drew=.ok ovs.toArray X.w.drew)(hs:Src P (T e).size u (.slice xa m c) m nvs X.w)
 (hg:sCap<sLen+m)(hb:(sLen+m)*(T e).bytes<=140737488355328)(hm:sLen+m<=9223372036854775807)(_hu:(T u).k=.slice e')
 (h:K (.c (.own X.h.length 0 (sLen+m))) (X.h++[.arr (T e).size (olds++news) false])):
  Val X K ((Builtin.append_ #[t,u] ty #[.slice base sLen sCap,.slice xa m c]).run P X.w):=by
 obtain ⟨_,i,z,h1,h2,h3,h4,h5,h6,h7,h8⟩:=cC hT (bI hT he);rw[<- h2] at hold hs;rw[<- h3] at hb;have hrun:=run_append_grow_src (P:=P) X.w t u ty e i z (bB hT ht) h1 h4 base sLen sCap ovs hold (.slice xa m c) m nvs hs hg (by omega) (growslice_fits hg hb);have hge:=grownCap_ge X.w (sLen+m) sCap e;have hle:=grownCap_le_maxLen X.w (sLen+m) sCap e (by unfold maxLen;omega);have hz:z.cells.size=(T e).size:=by
  have:=congrArg List.length h5;simp only[List.length_map] at this;rw[h6,this];simp
 have hov:=hor.length_flatten hol;have hnv:=hnr.length_flatten hnl;have hsize:((ovs++nvs).toArray++Builtin.zeroCells z.cells (grownCap X.w (sLen+m) sCap e-(sLen+m))).size=grownCap X.w (sLen+m) sCap e*(T e).size:=by
  simp only[Array.size_append,List.size_toArray,List.length_append,size_zeroCells,hz,hov,hnv,hole,hnle,<- Nat.add_mul]
  congr 1;omega
 have hgw:Grew X.w (X.w.drew.alloc (.cells ((ovs++nvs).toArray++Builtin.zeroCells z.cells (grownCap X.w (sLen+m) sCap e-(sLen+m))) e)) (.cells ((ovs++nvs).toArray++Builtin.zeroCells z.cells (grownCap X.w (sLen+m) sCap e-(sLen+m))) e (0,0)) :=
  Grew.drew (Grew.alloc _ _)
 have hlen:(olds++news).length=sLen+m:=by simp[hole,hnle]
 obtain ⟨h9,h10⟩:=sW (k:=(T e).size) (es:=olds++news) (vs:=ovs++nvs) hi hgw (λx hx=>by rcases List.mem_append.1 hx with hx|hx;exact hol x hx;exact hnl x hx) (by rw[List.flatten_append];exact hor.append hnr)
  (λj v hj=>by rw[Array.getElem?_append_left (by have:=aK hj;simpa using this)];simpa using hj) (by rw[hsize,hlen];exact Nat.mul_le_mul_right _ hge) (tQ.zero _ _ _)
 exact⟨_,_,_,hrun,h10,h9,tC (k:=(T e).size) (es:=olds++news) hgw (by rw[hlen];exact Nat.le_refl _) hge hle (by rw[hsize];exact Nat.le_refl _),h⟩
theorem zZ(hT:bM P T)(hi:HInv X)(ht:(T t).k=.slice e)(he:(T e).size≠0)(hu:(T u).k=.slice e'){ty:TypeId}
 (hs:Src P (T e).size u (.slice xa 0 c) 0 nvs X.w)(h:K (.c (.own X.h.length 0 0)) (X.h++[.arr (T e).size [] false])):
  Val X K ((Builtin.append_ #[t,u] ty #[.slice none 0 0,.slice xa 0 c]).run P X.w):=by
 obtain⟨h1,h2⟩:=virt hi (T e).size;have hcells:=hs.cells;refine⟨.slice none 0 0,_,X.virt (T e).size,?_,h2,h1,tI (iQ (X:=X) (k:=(T e).size) (v:=.slice none 0 0) (by simp[cA,cZ])),h⟩;obtain⟨_,i,z,h3,h4,_⟩:=cC hT (bI hT he);rw[<- h4] at hcells;simp[Builtin.append_,run_underlying (bB hT ht),run_underlying (bB hT hu),sizeOf,typeInfo,h3,Builtin.lenOf,hcells,Ctx.virt]
theorem nO(hT:bM P T)(hi:HInv X)(ht:(T t).k=.slice e)(hu:(T u).k=.slice e')(hs:(T e).size≠0){id off len:Nat}{es:List (List PV)}{ty:TypeId}
 (hd:bD X (.c (.own id off len)) vd)(hid:X.h[id]?=some (.arr (T e).size es false))(hnl:∀x∈news,x.length=(T e).size)(hnr:bQ X.w X.S news.flatten nvs)(hsrc:Src P (T e).size u (.slice xa news.length c) news.length nvs X.w)
 (hol:off+len=es.length)(hb:(len+news.length)*(T e).bytes<=140737488355328)(hm:len+news.length<=9223372036854775807)
 (h:K (.c (.own X.h.length 0 (len+news.length))) (X.h.set id .dead++[.arr (T e).size (es.drop off++news) false])):
  Val X K ((Builtin.append_ #[t,u] ty #[vd,.slice xa news.length c]).run P X.w):=by
 obtain ⟨hlt,_,h3⟩:=hd;obtain⟨h4,h5⟩:=h3 _ _ _ hid;have hblk:=hi.blk id _ hid;have hik:=hi.kill id;have hsk:=Step.kill hi id;have fin:Val (X.kill id) K ((Builtin.append_ #[t,u] ty #[vd,.slice xa news.length c]).run P (X.kill id).w)->Val X K ((Builtin.append_ #[t,u] ty #[vd,.slice xa news.length c]).run P X.w):=by
  rintro⟨v,d,X',g1,g2,g3,g4,g5⟩;exact⟨v,d,X',g1,g2,hsk.trans hik g3,g4,g5⟩
 have hkl:(X.kill id).h.length=X.h.length:=by simp[Ctx.kill]
 cases hG:X.G id with
 | none =>
  rw[hG] at h5;subst h5;rcases hblk with hb'|⟨g',_,_,_,hg,_⟩
  .obtain ⟨_,rfl⟩:=hb';simp only[List.length_nil] at hol;have hoff:off=0:=by omega
   have hlen:len=0:=by omega
   subst hoff;subst hlen;apply fin;by_cases h0:news.length=0
   .rw[h0] at hsrc h ⊢;have:=List.eq_nil_of_length_eq_zero h0;subst this;exact zZ (X:=X.kill id) hT hik ht hs hu hsrc (by rw[hkl];exact h)
   .refine mI (X:=X.kill id) (olds:=[]) (ovs:=[]) hT hik ht hs (λx hx=>by cases hx) hnl True.intro hnr rfl rfl ?_ hsrc (by omega) (by simpa using hb) (by simpa using hm) hu (by rw[hkl];simpa[Ctx.kill] using h)
    simp[Builtin.firstCells]
  .simp_all
 | some g =>
  rw[hG] at h5;obtain⟨cap,o,arr,el,fz,h6,rfl,h7,h8,h9,h10⟩:=h5;rcases hblk with hb'|⟨g',arr',el',fz',hg,h11,h12,h13,hL⟩
  .simp_all
  rw [hG] at hg;cases hg;rw[h6] at h11;cases h11;have holds:∀x∈es.drop off,x.length=(T e).size:=λx hx=>by
   obtain⟨j,hj⟩:=List.mem_iff_getElem?.1 (List.mem_of_mem_drop hx);exact(hL.at_ hj).1
  obtain⟨ovs,ho1,ho2,ho3⟩:=(hL.drop off).vals;have hdl:(es.drop off).length=len:=by simp;omega
  by_cases hroom:len+news.length<=cap
  ·
   have hnv:=hnr.length_flatten hnl;have hes:es.length*(T e).size=off*(T e).size+len*(T e).size:=by rw[<- Nat.add_mul,hol]
   have hcapm:(off+(len+news.length))*(T e).size<=(off+cap)*(T e).size:=Nat.mul_le_mul_right _ (by omega);have hsum:(off+(len+news.length))*(T e).size=off*(T e).size+len*(T e).size+news.length*(T e).size:=by simp only[Nat.add_mul];omega
   obtain ⟨_,i,z,g1,g2,_⟩:=cC hT (bI hT hs);have hst:∃w',(storeCells ⟨g.1,o+len*(T e).size,none⟩ nvs).run P X.w=.ok () w'/\Wrote X.w w' g.1 (g.2+es.length*(T e).size) nvs:=by
    by_cases hn0:nvs=[]
    .subst hn0;refine⟨X.w,by simp[storeCells],rfl,rfl,tM.rfl',rfl,λ_ _=>rfl,arr,el,fz,arr,h6,h6,rfl,λj=>?_⟩
     grind
    .have hpos:0<news.length:=by
      rcases Nat.eq_zero_or_pos news.length with h0|h0
      .simp_all
      .exact h0
     have ho:o=g.2+off*(T e).size:=by rcases h7 with h7|h7<;>omega
     obtain⟨w',k1,k2⟩:=gE (P:=P) (bl:=g.1) (off:=o+len*(T e).size) nvs 0 X.w h6 (by omega) (λx k3 k4=>h13.at_ x (by omega) (by omega)) hnr.oneCell;grind
   obtain ⟨w',hst1,hst2⟩:=hst;have hrun:(Builtin.append_ #[t,u] ty #[.slice (some ⟨g.1,o,none⟩) len cap,.slice xa news.length c]).run P X.w=.ok (.slice (some ⟨g.1,o,none⟩) (len+news.length) cap) w':=by
    have hc2:=hsrc.cells;rw[<- g2] at hc2 hst1;simp[Builtin.append_,run_underlying (bB hT ht),run_underlying (bB hT hu),sizeOf,typeInfo,g1,Builtin.lenOf,hroom,hc2,iE,hst1]
   obtain ⟨k1,k2⟩:=zBf hi hid hG hnl hnr hst2 (λarr2 el2 fz2 hx=>by
    rw[h6] at hx;cases hx;have:(es.length+news.length)*(T e).size=es.length*(T e).size+news.length*(T e).size:=Nat.add_mul _ _ _;omega)
   have hid2:(X.put w' id (.arr (T e).size (es++news) false)).h[id]?=some (.arr (T e).size (es++news) false):=by
    simp only[Ctx.put];simp_all
   obtain ⟨k3,k4⟩:=rebase (off:=off) k2 hid2 hG (by simp;omega);have hheap:((X.put w' id (.arr (T e).size (es++news) false)).rebase id (g.1,g.2+off*(T e).size) (T e).size ((es++news).drop off)).h=X.h.set id .dead++[.arr (T e).size (es.drop off++news) false]:=by
    simp only[Ctx.rebase,Ctx.put,List.set_set];grind
   refine⟨_,_,_,hrun,k4,k1.trans k2 k3,?_,by rw[hheap];exact h⟩
   refine tI (x:=.own X.h.length 0 (len+news.length)) ⟨by rw[hheap];simp,rfl,λk' es' ro' hh=>?_⟩
   rw[hheap] at hh;rw[show X.h.length=(X.h.set id .dead).length by simp,List.getElem?_concat_length] at hh
   obtain⟨rfl,rfl,rfl⟩:=hh;simp only[Ctx.rebase,Ctx.put,List.length_set,if_true];obtain⟨a1,e1,f1,a2,k5,k6,k7,_⟩:=hst2.here;grind
  ·
   apply fin;refine mI (X:=X.kill id) (olds:=es.drop off) (ovs:=ovs) hT hik ht hs holds hnl ho1 hnr hdl rfl ?_ hsrc (by omega) hb hm hu (by rw[hkl];exact h);by_cases hl0:len=0
   .subst hl0;have hov0:ovs=[]:=List.eq_nil_of_length_eq_zero (by rw[ho2,hdl,Nat.zero_mul]);subst hov0;simp[Builtin.firstCells,loadCells,loadCellsFrom]
   .have ho:o=g.2+off*(T e).size:=by rcases h7 with h7|h7<;>omega
    subst ho;exact run_firstCells_some X.w.drew (T e).size len ⟨g.1,g.2+off*(T e).size,none⟩ len cap ovs (by rw[ho2,hdl]) λj v hj=>by
     rw[iE];exact ho3 j v hj
theorem WL(hT:bM P T)(hi:HInv X){dst src:DV}{vs:Value}{ty:TypeId}(hd:bD X dst vd)(hsr:bD X src vs)(h:AN T t u dst src X.h K):
  Val X K ((Builtin.append_ #[t,u] ty #[vd,vs]).run P X.w):=by
 unfold AN at h;split at h
 .rename_i e e' news ht hu hes;obtain⟨rfl,hs0,hnl,h⟩:=h;have hs:(T e).size≠0:=by omega
  obtain⟨xa,c,nvs,rfl,hnr,hxa,hxc⟩:=xK hi hsr hes;have hsrc:Src P (T e).size u (.slice xa news.length c) news.length nvs X.w:=zLB hT hu rfl hnr hnl hxa hxc;split at h
  .obtain ⟨hb,hm,h⟩:=h;simp only[bD,cA,cZ] at hd;subst hd;by_cases h0:news.length=0
   .rw[h0] at hsrc h ⊢;have:=List.eq_nil_of_length_eq_zero h0;subst this;exact zZ hT hi ht hs hu hsrc h
   .refine mI (olds:=[]) (ovs:=[]) hT hi ht hs (λx hx=>by cases hx) hnl True.intro hnr rfl rfl ?_ hsrc (by omega) (by simpa using hb) (by simpa using hm) hu (by simpa using h)
    simp[Builtin.firstCells]
  .rename_i k es;obtain⟨rfl,h0,hb,hm,h⟩:=h;obtain⟨ad,rfl,hL⟩:=hd;rcases hL with rfl|⟨bl,off,rfl,hS,hL⟩
   .refine mI (olds:=[]) (ovs:=[]) hT hi ht hs (λx hx=>by cases hx) hnl True.intro hnr rfl rfl ?_ hsrc (by simp only[List.length_nil];omega) (by simpa using hb) (by simpa using hm) hu (by simpa using h)
    cases ad<;>simp[Builtin.firstCells,loadCells,loadCellsFrom]
   .have holds:∀x∈es,x.length=(T e).size:=λx hx=>by
     obtain⟨j,hj⟩:=List.mem_iff_getElem?.1 hx;exact(hL.at_ hj).1
    obtain ⟨ovs,ho1,ho2,ho3⟩:=hL.vals;refine mI (olds:=es) (ovs:=ovs) hT hi ht hs holds hnl ho1 hnr rfl rfl ?_ hsrc (by omega) hb hm hu h;exact run_firstCells_some X.w.drew (T e).size es.length ⟨bl,off,none⟩ es.length es.length ovs ho2 λj v hj=>by
     rw[iE];exact ho3 j v hj
  .rename_i id off len;split at h
   .rename_i k es hid;cases hsm:zAW src id
    .rw[hsm] at h;obtain⟨rfl,hol,hb,hm,h⟩:=h;exact nO hT hi ht hu hs hd hid hnl hnr hsrc hol hb hm h
    .rw [hsm] at h;obtain⟨rfl,hol,hb,hm,h⟩:=h;have hblk:=hi.blk id _ hid;have hlt:=aK hid;have hd0:=hd;obtain⟨_,hone,h3⟩:=hd;obtain⟨h4,h5⟩:=h3 _ _ _ hid;simp only[eC] at hblk;have htl:((es.drop off).take len).length=len:=by simp;omega
     have hset:(X.h.set id .dead).length=X.h.length:=by simp
     have hcat:∀x y:DB,(X.h.set id .dead++[x]).set X.h.length .dead++[y]=X.h.set id .dead++[.dead,y]:=λx y=>by
      rw[<- hset,List.set_append_right _ _ (Nat.le_refl _),Nat.sub_self,List.set_cons_zero,List.append_assoc];rfl
     cases hG:X.G id with
     | none =>
      rw[hG] at h5;simp only at h5;rcases hblk with hb'|⟨g',_,_,_,hg,_⟩
      .obtain ⟨_,rfl⟩:=hb';simp only[List.length_nil] at hol;have hoff:off=0:=by omega
       have hlen:len=0:=by omega
       subst hoff;subst hlen;subst h5;have hik:=hi.kill id;obtain⟨v1,v2⟩:=virt hik (T e).size;have hdv:bD ((X.kill id).virt (T e).size) (.c (.own X.h.length 0 0)) (.slice none 0 0):=by
        have:=iQ (X:=X.kill id) (k:=(T e).size) (v:=.slice none 0 0) (by simp[cA,cZ]);rw[show (X.kill id).h.length=X.h.length from hset] at this
        exact this
       obtain ⟨v,d,X',g1,g2,g3,g4,g5⟩:=nO (X:=(X.kill id).virt (T e).size) (K:=K) (es:=[]) (ty:=ty) hT v2 ht hu hs hdv (by
        show (X.h.set id .dead++[_])[X.h.length]? = _
        rw [<- hset,List.getElem?_concat_length]) hnl hnr hsrc rfl hb hm (by
         have hl2:((X.kill id).virt (T e).size).h.length=X.h.length+1:=by simp[Ctx.virt,Ctx.kill]
         rw[hl2];show K _ ((X.h.set id .dead++[_]).set X.h.length .dead++[_])
         rw[hcat];simpa using h)
       exact⟨v,d,X',g1,g2,(Step.kill hi id).trans hik (v1.trans v2 g3),g4,g5⟩
      .rw[hG] at hg;cases hg
     | some g =>
      obtain⟨k1,k2⟩:=YJ (off:=off) (len:=len) hi hid hG hol;rw[hG] at h5;obtain⟨cap,o,arr,el,fz,h6,rfl,h7,h8,h9,h10⟩:=h5;have hxh:(X.rebase id (g.1,g.2+off*(T e).size) (T e).size ((es.drop off).take len)).h=X.h.set id .dead++[.arr (T e).size ((es.drop off).take len) false]:=rfl
      have hidn:(X.rebase id (g.1,g.2+off*(T e).size) (T e).size ((es.drop off).take len)).h[X.h.length]?=some (.arr (T e).size ((es.drop off).take len) false):=by
       rw[hxh,<- hset,List.getElem?_concat_length]
      obtain ⟨v,d,X',g1,g2,g3,g4,g5⟩:=nO (X:=X.rebase id (g.1,g.2+off*(T e).size) (T e).size ((es.drop off).take len)) (K:=K) (ty:=ty) hT k2 ht hu hs (id:=X.h.length) (off:=0) (len:=len) (vd:=.slice (some ⟨g.1,o,none⟩) len cap) ⟨by rw[hxh];simp,rfl,λk' es' ro' hh=>by
        rw[hidn] at hh;simp only[Option.some.injEq,DB.arr.injEq] at hh;obtain⟨rfl,rfl,rfl⟩:=hh;refine⟨by rw[htl];omega,?_⟩
        simp only[Ctx.rebase,if_true];refine⟨cap,o,arr,el,fz,h6,rfl,?_,h8,h9,?_⟩
        .rcases h7 with h7|h7
         .exact .inl h7
         .right;rw[h7];simp
        .have:(off+cap)*(T e).size=off*(T e).size+cap*(T e).size:=Nat.add_mul _ _ _;simp only[Nat.zero_add];omega⟩ hidn hnl hnr hsrc (by rw[htl];omega) hb hm (by
        have hl2:(X.rebase id (g.1,g.2+off*(T e).size) (T e).size ((es.drop off).take len)).h.length=X.h.length+1:=by rw[hxh];simp
        rw[hl2,hxh,hcat,List.drop_zero];exact h)
      exact⟨v,d,X',g1,g2,k1.trans k2 g3,g4,g5⟩
   .exact h.elim
  .exact h.elim
 .exact h.elim
end app
end Go.Dm
end
section
namespace Go.Dm
open Go
section comp
variable {P:Program}{T:Tab}{X:Ctx}{K:DV->aD->Prop}
theorem jK{α:Type}(z:List α)(n j:Nat)(h:j<n*z.length):(List.replicate n z).flatten[j]?=z[j % z.length]? := by
 have hz:0<z.length:=by
  grind
 have h1:j / z.length<n:=(Nat.div_lt_iff_lt_mul hz).2 h;have:=mN (k:=z.length) (es:=List.replicate n z) (j:=j / z.length) (c:=j % z.length) (e:=z) (λe he=>by rw[(List.mem_replicate.1 he).2]) (by rw[List.getElem?_replicate,if_pos h1]) (Nat.mod_lt _ hz)
 have:=Nat.div_add_mod j z.length;grind
theorem wrap_i64{n:Int}(h1:-9223372036854775808<=n)(h2:n<=9223372036854775807):IntKind.i64.wrap n=n:=by
 simp only[IntKind.wrap,IntKind.bits,IntKind.signed,Bool.true_and];grind
theorem zD2(hT:bM P T)(hi:HInv X){t:Nat}{l c:DV}{vl vc:Value}(hl:bD X l vl)(hc:bD X c vc)(h:zD1 T t l c X.h K):Val X K ((Instr.makeSlice t vl vc).run P X.w):=by
 unfold zD1 at h;split at h
 .rename_i e n m hk;obtain⟨h0,h1,h2,h3,h4,h5,h⟩:=h;subst hl;subst hc;have hs:(T e).size≠0:=by omega
  obtain ⟨_,i,z,g1,g2,g3,g4,g5,g6,g7,g8⟩:=cC hT (bI hT hs);have hz:z.cells.size=(T e).size:=by
   have:=congrArg List.length g5;grind
  have wn:IntKind.i64.wrap n=n:=wrap_i64 (by omega) (by omega);have wm:IntKind.i64.wrap m=m:=wrap_i64 (by omega) (by omega);have hbm:(i.bytes:Int)*m<=140737488355328:=by rw[g3,Int.mul_comm];exact h3
  have hsize:0<m.toNat*(T e).size∨m.toNat=0:=by
   rcases Nat.eq_zero_or_pos m.toNat with hm|hm
   .omega
   .exact .inl (Nat.mul_pos hm h4)
  have hgw:=Grew.alloc X.w (.cells ((Array.range (m.toNat*(T e).size)).map λj=>(if m.toNat*(T e).size=0 then #[] else z.cells)[j % (if m.toNat*(T e).size=0 then #[] else z.cells).size]!) e)
  have hrun:(Instr.makeSlice t (.int .i64 n) (.int .i64 m)).run P X.w=.ok (.slice (some ⟨X.w.heap.size,0,none⟩) n.toNat m.toNat)
    (X.w.alloc (.cells ((Array.range (m.toNat*(T e).size)).map λj=>(if m.toNat*(T e).size=0 then #[] else z.cells)[j % (if m.toNat*(T e).size=0 then #[] else z.cells).size]!) e)):=by
   have q1:¬ m<0:=by omega
   have q2:¬ 281474976710656<(i.bytes:Int)*m:=by omega
   have q3:¬ n<0:=by omega
   have q4:¬ m<n:=by omega
   by_cases q5:m.toNat*i.size=0
   .rw[<- g2];simp[Instr.makeSlice,run_underlying (bB hT hk),asInt,asIntOf,typeInfo,g1,wn,wm,q1,q2,q3,q4,sizeOf,q5,newRow]
   .rw[<- g2];simp[Instr.makeSlice,run_underlying (bB hT hk),asInt,asIntOf,typeInfo,g1,wn,wm,q1,q2,q3,q4,sizeOf,q5,newRow,zeroValue,g4]
  have hfl:bQ X.w X.S (List.replicate n.toNat (T e).zero).flatten (List.replicate n.toNat z.cells.toList).flatten:=by
   have hzz:bQ X.w X.S (T e).zero z.cells.toList:=jX g5;have:∀q:Nat,bQ X.w X.S (List.replicate q (T e).zero).flatten (List.replicate q z.cells.toList).flatten:=by
    intro q
    induction q with
    | zero=>exact True.intro
    | succ q ih=>simpa[List.replicate_succ] using hzz.append ih
   exact this _
  have hlz:z.cells.toList.length=(T e).size:=by simpa using hz
  obtain ⟨k1,k2⟩:=sW (k:=(T e).size) (es:=List.replicate n.toNat (T e).zero) (vs:=(List.replicate n.toNat z.cells.toList).flatten) hi hgw (λx hx=>by rw[(List.mem_replicate.1 hx).2];exact h5) hfl (λj v hj=>by
    have hjl:=aK hj;rw[eW (k:=(T e).size) (λx hx=>by rw[(List.mem_replicate.1 hx).2];exact hlz),List.length_replicate] at hjl
    have hlt:j<m.toNat*(T e).size:=Nat.lt_of_lt_of_le hjl (Nat.mul_le_mul_right _ (by omega));rw[jK z.cells.toList n.toNat j (by rw[hlz];exact hjl)] at hj;rw[hlz] at hj;have hne:m.toNat*(T e).size≠0:=by omega
    simp only[if_neg hne,Array.getElem?_map,Array.getElem?_range,if_pos hlt,Option.map_some,Option.some.injEq];rw[hz];have hmod:j % (T e).size<z.cells.size:=by rw[hz];exact Nat.mod_lt _ h4
    rw[getElem!_pos z.cells _ hmod];rw[Array.getElem?_toList,Array.getElem?_eq_getElem hmod] at hj;exact Option.some.inj hj) (by simp;exact Nat.mul_le_mul_right _ (by omega)) (tQ.zero _ _ _)
  exact⟨_,_,_,hrun,k2,k1,tC (k:=(T e).size) (es:=List.replicate n.toNat (T e).zero) hgw (by simp) (by omega) (by unfold maxLen;omega) (by simp),h⟩
 .simp_all
theorem FC(z:Array Value)(n:Nat):(Builtin.zeroCells z n).toList=(List.replicate n z.toList).flatten:=by
 apply List.ext_getElem?;intro j;have hl:((List.replicate n z.toList).flatten).length=n*z.size:=by
  simp_all
 by_cases h:j<n*z.size
 .have hz:0<z.size:=by
   grind
  have hmod:j % z.size<z.size:=Nat.mod_lt _ hz;rw[jK z.toList n j (by simpa using h)];have hb:z[j % z.size]! = z[j % z.size]:=getElem!_pos z (j % z.size) hmod;simp[Builtin.zeroCells,h,Array.getElem?_eq_getElem hmod,hb]
 .rw[List.getElem?_eq_none (l:=(List.replicate n z.toList).flatten) (by omega),List.getElem?_eq_none];simp[Builtin.zeroCells];omega
theorem zBw(hT:bM P T)(hi:HInv X){t:Nat}{x:DV}{v:Value}{ty:TypeId}(hx:bD X x v)(h:PG T t x X.h K):Val X K ((Builtin.clear_ #[t] ty #[v]).run P X.w):=by
 unfold PG at h;split at h
 .rename_i e id off len hk;split at h
  .rename_i k es hid;obtain⟨h4,rfl,hol,h⟩:=h;have hs:(T e).size≠0:=by omega
   obtain ⟨_,i,z,g1,g2,g3,g4',g5,g6,g7,g8⟩:=cC hT (bI hT hs);have hz:z.cells.size=(T e).size:=by
    have:=congrArg List.length g5;grind
   have hzz:bQ X.w X.S (T e).zero z.cells.toList:=jX g5;have hzl:(T e).zero.length=(T e).size:=by rw[hzz.length];simpa using hz
   obtain ⟨hlt,hone,h3⟩:=hx;obtain⟨h5,h6⟩:=h3 _ _ _ hid;have e0:len=0->X.h.set id (.arr (T e).size (es.take off++(List.replicate len (T e).zero++es.drop (off+len))) false)=X.h:=by
    rintro rfl;rw[List.replicate_zero,List.nil_append,Nat.add_zero,List.take_append_drop];exact(List.getElem?_eq_some_iff.1 hid).elim λhlt he=>by rw[<- he];exact List.set_getElem_self hlt
   have fin0:len=0->∀(p:Option Addr) (cap:Nat),v=.slice p 0 cap->Val X K ((Builtin.clear_ #[t] ty #[v]).run P X.w):=by
    rintro hz0 p cap rfl;refine⟨.tuple #[],.tup [],X,?_,hi,Step.refl hi,⟨[],rfl,True.intro⟩,by rw[e0 hz0] at h;exact h⟩
    cases p<;>simp[Builtin.clear_,run_underlying (bB hT hk)]
   cases hg:X.G id with
   | none =>
    have hb:=hi.blk id _ hid;have hes:es=[]:=by
     rcases hb with hb|⟨g,_,_,_,hb,_⟩
     .exact hb.2
     .grind
    grind
   | some g =>
    rw[hg] at h6;obtain⟨cap,o,arr,el,fz,k1,k2,k3,k4,k5,k6⟩:=h6;by_cases hl0:len=0
    .grind
    .have ho:o=g.2+off*(T e).size:=by rcases k3 with k3|k3<;>omega
     have hb:=hi.blk id _ hid;rcases hb with hb|⟨g',arr',el',fz',b1,b2,b3,b4,b5⟩
     .grind
     rw [hg] at b1;cases b1;rw[k1] at b2;cases b2;have hnr:∀q:Nat,bQ X.w X.S (List.replicate q (T e).zero).flatten (List.replicate q z.cells.toList).flatten:=by
      intro q
      induction q with
      | zero=>exact True.intro
      | succ q ih=>simpa[List.replicate_succ] using hzz.append ih
     have hnl:∀x∈List.replicate len (T e).zero,x.length=(T e).size:=λx hx=>by rw[(List.mem_replicate.1 hx).2];exact hzl
     have hvl:((List.replicate len z.cells.toList).flatten).length=len*(T e).size:=by
      rw[eW (k:=(T e).size) (λx hx=>by rw[(List.mem_replicate.1 hx).2];simpa using hz),List.length_replicate]
     have hlm:(off+len)*(T e).size<=es.length*(T e).size:=Nat.mul_le_mul_right _ hol;have hlm2:(off+len)*(T e).size=off*(T e).size+len*(T e).size:=Nat.add_mul _ _ _;obtain⟨w',w1,w2⟩:=gE (P:=P) (bl:=g.1) (off:=o) ((List.replicate len z.cells.toList).flatten) 0 X.w k1 (by rw[hvl];omega) (λx q1 q2=>b4.at_ x (by omega) (by rw[hvl] at q2;omega)) (hnr len).oneCell;rw[Nat.add_zero,ho] at w2;rw[ho] at w1;obtain⟨s1,s2⟩:=zH3 (lo:=off) (news:=List.replicate len (T e).zero) hi hid hg (by rw[List.length_replicate];exact hol) hnl (hnr len) w2;rw[List.length_replicate] at s1 s2;subst k2;refine⟨.tuple #[],.tup [],_,?_,s2,s1,⟨[],rfl,True.intro⟩,h⟩;rw[ho];simp[Builtin.clear_,run_underlying (bB hT hk),zeroValue,typeInfo,g1,g4',FC,w1,Ctx.put]
  .exact h.elim
 .simp_all
theorem BH:∀(ys:List Value) (cs:Array Value) (off i:Nat),off+i+ys.length<=cs.size ->
  (ys.zipIdx i).foldl (λcs (c,j)=>cs.setIfInBounds (off+j) c) cs=(splice cs.toList (off+i) ys).toArray
 | [],cs,off,i,_=>by simp[splice]
 | y::ys,cs,off,i,h=>by
  simp only[List.length_cons] at h;simp only[List.zipIdx_cons,List.foldl_cons];rw[BH ys (cs.setIfInBounds (off+i) y) off (i+1) (by simp;omega)]
  congr 1
  apply List.ext_getElem?;intro j;rw[kZ _ _ _ (by simp;omega),kZ _ _ _ (by simp;omega)];grind
theorem bF.splice{cells ys:List CV}{vs us:List Value}{off:Nat}(h:bF X cells vs)(k:bF X ys us)(hle:off+ys.length<=cells.length):bF X (splice cells off ys) (splice vs off us):=by
 have h1:=h.length;have h2:=k.length;refine bF.mk (by rw[iA _ _ _ hle,iA _ _ _ (by omega)];exact h1) λj c v hc hv=>?_;rw[kZ _ _ _ hle] at hc;rw[kZ _ _ _ (by omega)] at hv;rw[h2] at hc;split at hc
 .rename_i hj;obtain⟨v',h3,h4⟩:=k.at_ hc;simp_all
 .rename_i hj;obtain⟨v',h3,h4⟩:=h.at_ hc;simp_all
def lJ(X:Ctx):List (Nat × DV)->List (Nat × Value)->Prop
 | [],[]=>True
 | (i,d)::ds,(j,v)::vs=>i=j/\bD X d v/\lJ X ds vs
 | _,_=>False
theorem AR{place placeV:Nat->Option (Nat × Nat)}(hp:∀i x,place i=some x->placeV i=some x):∀{parts:List (Nat × DV)} {vparts:List (Nat × Value)} {cells cells':List CV} {vs:List Value},
  lJ X parts vparts->bF X cells vs->yG T place cells parts=some cells'->∃vs',Instr.fill placeV vs.toArray vparts=some (List.toArray vs')/\bF X cells' vs'
 | [],[],cells,cells',vs,_,hr,h=>by
  simp only[yG,Option.some.injEq] at h;subst h;exact⟨vs,rfl,hr⟩
 | (i,d)::parts,(j,v)::vparts,cells,cells',vs,hq,hr,h=>by
  obtain⟨rfl,hd,hq⟩:=hq;simp only[yG] at h;split at h
  .rename_i off size ys h1 h2;split at h
   .rename_i hle;have hy:=qS hd h2;have hyl:=hy.length;have hrl:=hr.length;obtain⟨vs',h3,h4⟩:=AR hp hq (hr.splice hy (by omega)) h;refine⟨vs',?_,h4⟩;simp only[Instr.fill,hp _ _ h1];have hsz:v.cells.size=v.cells.toList.length:=by simp
    rw[if_neg (by simp;omega)];have:=BH v.cells.toList vs.toArray off 0 (by simp;omega);rw[<- Array.foldl_toList,Array.toList_zipIdx,this];exact h3
   .cases h
  .cases h
 | [],_::_,_,_,_,h,_,_=>h.elim
 | _::_,[],_,_,_,h,_,_=>h.elim
theorem vI{α β:Type}{f:α->Sem β}{g:α->β}{w:World}:∀(l:List α),(∀x∈l,(f x).run P w=.ok (g x) w)->(l.mapM f).run P w=.ok (l.map g) w
 | [],_=>by simp
 | x::l,h=>by
  rw[List.mapM_cons];simp only[Sem.run_bind,h x (by simp),Result.andThen_ok,vI l (λy hy=>h y (by simp[hy])),Sem.run_pure,List.map_cons]
theorem zBv(hT:bM P T)(hi:HInv X){t:Nat}{parts:List (Nat × DV)}{vparts:Array (Nat × Value)}(hp:lJ X parts vparts.toList)(h:zDP T t parts λd=>K d X.h):Val X K ((Instr.build t vparts).run P X.w):=by
 unfold zDP at h;split at h
 .rename_i fs hk;obtain⟨hfs,h⟩:=h;obtain⟨_,i,z,g1,g2,g3,g4,g5,g6,g7,g8⟩:=cC hT (t:=t) (by rw[hk];simp);obtain⟨fields,hu,hf⟩:=nI hT hk;split at h
  .rename_i cells hc;have hz:bF X ((T t).zero.map .p) z.cells.toList:=bF.of_ps (jX g5);have hplaces:(fields.mapM λf=>do pure (f.offset,<- sizeOf f.type):Sem _).run P X.w=.ok (fields.map λf=>(f.offset,(T f.type).size)) X.w:=by
    rw [Array.mapM_eq_mapM_toList];simp only[Sem.run_map];rw[vI (g:=λf=>(f.offset,(T f.type).size)) fields.toList λf hf'=>by
     have:(T f.type).size≠0:=hfs (f.type,f.offset) (by rw[<- hf];exact List.mem_map.2 ⟨f,hf',rfl⟩);simp[dX hT (bI hT this)]]
    simp only[Result.andThen_ok]
    congr 1
    apply Array.ext';simp
   obtain ⟨vs',h1,h2⟩:=AR (T:=T) (placeV:=λj=>(fields.map λf=>(f.offset,(T f.type).size))[j]?) (λj x hx=>by
    obtain⟨f,h1,h2⟩:=Option.map_eq_some_iff.1 hx;rw[<- hf,List.getElem?_map] at h1;obtain⟨fd,h3,h4⟩:=Option.map_eq_some_iff.1 h1;subst h4;subst h2;rw[Array.getElem?_map];have:fields[j]?=some fd:=by simpa using h3
    rw[this];rfl) hp hz hc
   refine Val.same hi (v:=.agg vs'.toArray) ?_ (HE h2) h;simp only[Instr.build,Sem.run_bind,zeroValue,typeInfo,Sem.run_bind,run_program,Result.andThen_ok,g1,Sem.run_pure,g4,run_underlying hu,hplaces];simp_all
  .exact h.elim
 .rename_i n e hk;obtain⟨hse,h⟩:=h;obtain⟨_,i,z,g1,g2,g3,g4,g5,g6,g7,g8⟩:=cC hT (t:=t) (by rw[hk];simp);split at h
  .rename_i cells hc;have hz:bF X ((T t).zero.map .p) z.cells.toList:=bF.of_ps (jX g5);obtain⟨vs',h1,h2⟩:=AR (T:=T) (placeV:=λj=>some (j*(T e).size,(T e).size)) (λj x hx=>hx) hp hz hc;refine Val.same hi (v:=.agg vs'.toArray) ?_ (HE h2) h;simp only[Instr.build,Sem.run_bind,zeroValue,typeInfo,Sem.run_bind,run_program,Result.andThen_ok,g1,Sem.run_pure,g4,run_underlying (qL hT hk),dX hT (bI hT hse)];simp_all
  .exact h.elim
 .simp_all
end comp
end Go.Dm
end
section
namespace Go.Dm
open Go
section all
variable {P:Program}{T:Tab}{X:Ctx}{K:DV->aD->Prop}
theorem FU{size:Nat}:∀(vparts:List (Nat × Value)) (a:Nat) (cells:List Value),(∀p∈vparts,p.2.cells.size=size)->vparts.map (·.1)=List.range' a vparts.length->(a+vparts.length)*size<=cells.length ->
  Instr.fill (λi=>some (i*size,size)) cells.toArray vparts=some (cells.take (a*size)++(vparts.map λp=>p.2.cells.toList).flatten++cells.drop ((a+vparts.length)*size)).toArray
 | [],a,cells,_,_,_=>by simp[Instr.fill]
 | (i,v)::vparts,a,cells,h1,h2,h3=>by
  simp only[List.map_cons,List.length_cons,List.range'_succ,List.cons.injEq] at h2;obtain⟨rfl,h2⟩:=h2;have hv:=h1 (i,v) (by simp);simp only at hv;have hm:(i+1+vparts.length)*size=(i+(vparts.length+1))*size:=by congr 1;omega
  have hm1:(i+1)*size<=(i+(vparts.length+1))*size:=Nat.mul_le_mul_right _ (by omega);have hm2:(i+1)*size=i*size+size:=by rw[Nat.add_mul,Nat.one_mul]
  simp only[List.length_cons] at h3;simp only[Instr.fill];rw[if_neg (by simp;omega)];have:=BH v.cells.toList cells.toArray (i*size) 0 (by simp;omega);rw[<- Array.foldl_toList,Array.toList_zipIdx,this];rw[FU vparts (i+1) _ (λp hp=>h1 p (by simp[hp])) h2 (by rw[iA _ _ _ (by simp;omega)];show _<=cells.length;omega)];have hvl:v.cells.toList.length=size:=by simpa using hv
  have e1:List.take ((i+1)*size) (splice cells.toArray.toList (i*size) v.cells.toList)=List.take (i*size) cells++v.cells.toList:=by
   unfold splice;rw[List.take_append_of_le_length (by simp;omega),List.take_of_length_le (by simp;omega)]
  have e2:List.drop ((i+1+vparts.length)*size) (splice cells.toArray.toList (i*size) v.cells.toList)=List.drop ((i+(vparts.length+1))*size) cells:=by
   apply List.ext_getElem?;intro j;rw[List.getElem?_drop,List.getElem?_drop,kZ _ _ _ (by simp;omega),if_neg (by rw[hm];omega),hm]
  simp_all
theorem dI.cellss:∀{ds:List DV} {vs:List Value} {cs:List (List CV)},dI X ds vs->cellss ds=some cs->cs.length=vs.length/\∀(j:Nat) (c:List CV) (v:Value),cs[j]?=some c->vs[j]?=some v->bF X c v.cells.toList
 | [],[],cs,_,h=>by
  simp only[Dm.cellss,Option.some.injEq] at h;subst h;simp_all
 | d::ds,v::vs,cs,hr,h=>by
  simp only[Dm.cellss] at h;split at h
  .rename_i c cs' h1 h2;simp only[Option.some.injEq] at h;subst h;obtain⟨h3,h4⟩:=dI.cellss hr.2 h2;refine⟨by simp[h3],λj c' v' hc hv=>?_⟩
   cases j with
   | zero=>simp only[List.getElem?_cons_zero,Option.some.injEq] at hc hv;subst hc;subst hv;exact qS hr.1 h1
   | succ j=>grind
  .cases h
 | [],_::_,_,h,_=>h.elim
 | _::_,[],_,h,_=>h.elim
theorem zAP{X':Ctx}(hi:HInv X)(hs:Step X X')(hw:X'.w=X.w):∀{cs:List (List CV)} {vs:List Value} {es:List (List PV)},cs.length=vs.length->(∀(j:Nat) (c:List CV) (v:Value),cs[j]?=some c->vs[j]?=some v->bF X c v.cells.toList) ->
  zLv X.h cs=some es->vS X X' (zMI cs)->bQ X'.w X'.S es.flatten (vs.map λv=>v.cells.toList).flatten/\es.length=vs.length
 | [],[],es,_,_,h,_=>by simp only[zLv,Option.some.injEq] at h;subst h;exact⟨True.intro,rfl⟩
 | c::cs,v::vs,es,hl,hr,h,hf=>by
  simp only[zLv] at h;split at h
  .rename_i x xs h1 h2;simp only[Option.some.injEq] at h;subst h;have h3:=CP hi hs hw (hr 0 c v rfl rfl) h1 (hf.sub λid h=>by simp[zMI,h])
   obtain⟨h4,h5⟩:=zAP hi hs hw (cs:=cs) (vs:=vs) (by simpa using hl) (λj c' v' hc hv=>hr (j+1) c' v' (by simpa using hc) (by simpa using hv)) h2 (hf.sub λid h=>by simp[zMI,h])
   exact⟨by simpa using h3.append h4,by simp[h5]⟩
  .cases h
 | [],_::_,_,h,_,_,_=>by simp at h
 | _::_,[],_,h,_,_,_=>by simp at h
theorem lJ.split:∀{ps:List (Nat × DV)} {vs:List (Nat × Value)},lJ X ps vs->ps.map (·.1)=vs.map (·.1)/\dI X (ps.map (·.2)) (vs.map (·.2))
 | [],[],_=>⟨rfl,True.intro⟩
 | (i,d)::ps,(j,v)::vs,h=>by
  obtain⟨rfl,h1,h2⟩:=h;obtain⟨h3,h4⟩:=lJ.split h2;exact⟨by simp[h3],h1,h4⟩
 | [],_::_,h=>h.elim
 | _::_,[],h=>h.elim
theorem WN(hT:bM P T)(hi:HInv X){t len:Nat}{parts:List (Nat × DV)}{vparts:Array (Nat × Value)}(hp:lJ X parts vparts.toList)(h:AP T t len parts X.h K):Val X K ((Instr.buildSlice t len vparts).run P X.w):=by
 unfold AP at h;split at h
 .rename_i e hk;obtain⟨hs0,hzl,hbig,hrange,h⟩:=h;have hs:(T e).size≠0:=by omega
  split at h
  .rename_i cs hcs;split at h
   .rename_i es hes;obtain⟨hel,h⟩:=h;obtain⟨_,i,z,g1,g2,g3,g4,g5,g6,g7,g8⟩:=cC hT (bI hT hs);obtain⟨hp1,hp2⟩:=hp.split;obtain⟨h1,h2⟩:=dI.cellss hp2 hcs;obtain⟨X1,hw,hh,hG,hst,hi1,hfx⟩:=jD (zMI cs) hi;obtain⟨h3,h4⟩:=zAP hi hst hw h1 h2 hes hfx;have hn:vparts.size=len:=by
     have:=congrArg List.length (hp1.symm.trans hrange);grind
    have heslen:es.length=len:=by rw[h4];simp[hn]
    have hpart:∀p∈vparts.toList,p.2.cells.size=(T e).size:=by
     intro p hpm;obtain⟨j,hj⟩:=List.mem_iff_getElem?.1 hpm;have hjl:=aK hj;have hv:(vparts.toList.map (·.2))[j]?=some p.2:=by rw[List.getElem?_map,hj];rfl
     have hcj:∃c,cs[j]?=some c:=⟨_,List.getElem?_eq_getElem (by rw[h1];simpa using hjl)⟩;obtain⟨c,hc⟩:=hcj;have h5:=(h2 j c p.2 hc hv).length;have:∀(cs:List (List CV)) (es:List (List PV)) (j:Nat) (c:List CV),zLv X.h cs=some es->cs[j]?=some c->∃x,es[j]?=some x/\pvs X.h c=some x:=by
      intro cs
      induction cs with
      | nil=>grind
      | cons a cs ih =>
       intro es j c hp hc;simp only[zLv] at hp;grind
     have:∀(c:List CV) (x:List PV),pvs X.h c=some x->c.length=x.length:=by
      intro c
      induction c with
      | nil=>intro x hx;simp only[pvs,Option.some.injEq] at hx;subst hx;rfl
      | cons a c ih =>
       intro x hx;simp only[pvs] at hx;grind
     grind
    have hrun:(Instr.buildSlice t len vparts).run P X.w=.ok (.slice (some ⟨X.w.heap.size,0,none⟩) len len) (X.w.alloc (.cells (vparts.toList.map λp=>p.2.cells.toList).flatten.toArray e)):=by
     have hbig':¬ 16777216<len*i.size:=by rw[g2];omega
     have hfill:=FU (size:=(T e).size) vparts.toList 0 (((Array.range (len*(T e).size)).map λj=>(if len*(T e).size=0 then #[] else z.cells)[j % (if len*(T e).size=0 then #[] else z.cells).size]!).toList) hpart
      (by rw[<- hp1,hrange];simp[hn,List.range_eq_range']) (by simp[hn])
     have hdrop:((0+vparts.toList.length)*(T e).size)=len*(T e).size:=by simp[hn]
     rw[hdrop,List.drop_of_length_le (by simp)] at hfill;by_cases q:len*(T e).size=0
     .rw[<- g2] at q hfill;simp only[q,if_true] at hfill;simp only[Instr.buildSlice,Sem.run_bind,run_underlying (bB hT hk),Result.andThen_ok,sizeOf,typeInfo,Sem.run_bind,run_program,g1,Sem.run_pure,q];simp at hfill ⊢;have hr0:((Array.range 0).map λ_=>(default:Value)) = #[]:=by apply Array.ext';simp
      simp[hr0,hfill,newRow]
     .rw[<- g2] at q hfill;simp only[if_neg q,Array.toArray_toList] at hfill;simp[Instr.buildSlice,run_underlying (bB hT hk),sizeOf,typeInfo,g1,hbig',q,zeroValue,g4,hfill,newRow]
    have hgw:Grew X1.w (X.w.alloc (.cells (vparts.toList.map λp=>p.2.cells.toList).flatten.toArray e)) (.cells (vparts.toList.map λp=>p.2.cells.toList).flatten.toArray e (0,0)):=by
     rw[hw];exact Grew.alloc _ _
    have h3':bQ X1.w X1.S es.flatten (vparts.toList.map λp=>p.2.cells.toList).flatten:=by
     rw[List.map_map] at h3;exact h3
    have hvl':=h3'.length_flatten hel;have hlen1:X1.h.length=X.h.length:=by rw[hh,sO]
    obtain⟨k1,k2⟩:=sW (k:=(T e).size) hi1 hgw hel h3' (λj v hj=>by simpa using hj) (by simp only[List.size_toArray];omega) (tQ.zero _ _ _)
    have hown:=tC (X:=X1) (k:=(T e).size) (es:=es) (n:=len) (cap:=len) hgw (by omega) (Nat.le_refl _) (by unfold maxLen;have:=Nat.le_mul_of_pos_right len hs0;omega) (by simp only[List.size_toArray];rw[hvl',heslen];exact Nat.le_refl _);rw[show X1.w.heap.size=X.w.heap.size by rw[hw]] at hown
    refine⟨_,_,_,hrun,k2,hst.trans hi1 k1,hown,?_⟩;show K _ (X1.h++_);grind
   .exact h.elim
  .exact h.elim
 .simp_all
end all
end Go.Dm
end
section
namespace Go.Dm
open Go
section maps
variable {P:Program}{T:Tab}{X:Ctx}{K:DV->aD->Prop}
variable {z x:PV}{es es':List (Int × PV)}{n:Int}{w:World}{S:Nat->Prop}{t c:Nat}{ms:List MapEntry}{m:MapEntry}{vm vx:Value}
theorem KS: ∀{es:List (Int × PV)} {n:Int},zDc es n=true↔n∈es.map (·.1)
 | [],_=>by simp[zDc]
 | e::es,n=>by
  simp only[zDc,List.map_cons,List.mem_cons];split
  .simp_all
  .rename_i h;rw[KS];grind
theorem LF: ∀{es:List (Int × PV)} {n:Int},n ∉ es.map (·.1)->oW es n z=z
 | [],_,_=>rfl
 | e::es,n,h=>by
  simp only[List.map_cons,List.mem_cons,not_or] at h;simp only[oW];rw[if_neg (λe'=>h.1 e'.symm)];exact LF h.2
theorem BW: ∀{es:List (Int × PV)} {n:Int},(es.map (·.1)).Nodup->(n,x)∈es->oW es n z=x
 | [],_,_,h=>by cases h
 | e::es,n,hn,h=>by
  have hn2:=List.nodup_cons.1 hn;simp only[oW];rcases List.mem_cons.1 h with rfl|h
  .simp_all
  .rw[if_neg (λe'=>hn2.1 (List.mem_map.2 ⟨(n,x),h,e'.symm⟩))];exact BW hn2.2 h
theorem zGw(h:es'.Perm es)(n:Int):zDc es' n=zDc es n:=by
 rw[Bool.eq_iff_iff,KS,KS];grind
theorem CK(h:es'.Perm es)(hn:(es'.map (·.1)).Nodup):(es.map (·.1)).Nodup:=(h.map _).nodup_iff.1 hn
theorem zCi(h:es'.Perm es)(hn:(es'.map (·.1)).Nodup)(n:Int)(z:PV):oW es' n z=oW es n z:=by
 by_cases hm:n∈es'.map (·.1)
 .obtain⟨e,h1,rfl⟩:=List.mem_map.1 hm;rw[BW hn (x:=e.2) h1,BW (CK h hn) (x:=e.2) (h.mem_iff.1 h1)]
 .rw[LF hm,LF (λh2=>hm ((h.map _).mem_iff.2 h2))]
theorem oK: ∀{es:List (Int × PV)},(es.map (·.1)).Nodup->(EJ es n x).Perm ((n,x)::es.filter λe=>!(e.1==n))
 | [],_=>List.Perm.refl _
 | e::es,hn=>by
  have hn2:=List.nodup_cons.1 hn;simp only[EJ,List.filter_cons];by_cases he:e.1=n
  .rw[if_pos he,if_neg (by simp[he])];rw[List.filter_eq_self.2];grind
  .rw[if_neg he,if_pos (by simpa using he)];exact(List.Perm.cons _ (oK hn2.2)).trans (List.Perm.swap _ _ _)
theorem zGx(h:es'.Perm es)(hn:(es'.map (·.1)).Nodup)(n:Int)(x:PV):(EJ es' n x).Perm (EJ es n x) :=
 (oK hn).trans (((h.filter _).cons _).trans (oK (CK h hn)).symm)
theorem zCP(hn:(es.map (·.1)).Nodup)(n:Int)(x:PV):((EJ es n x).map (·.1)).Nodup:=by
 rw[((oK (x:=x) (n:=n) hn).map _).nodup_iff,List.map_cons];grind
theorem KK(z:PV):∀{es:List (Int × PV)} {ms:List MapEntry} {i:Nat},zX w S es ms ->
  (Instr.findNow (.int .i64) (.int .i64 n) ms i=some none/\zDc es n=false/\oW es n z=z/\∀x,EJ es n x=es++[(n,x)]) ∨
  ∃j m x,Instr.findNow (.int .i64) (.int .i64 n) ms i=some (some (i+j,m.val))/\ms[j]?=some m/\m.key=.int .i64 n/\es[j]?=some (n,x)/\cZ w S x m.val/\zDc es n=true/\oW es n z=x/\∀y,EJ es n y=es.set j (n,y)
 | [],[],_,_=>.inl ⟨rfl,rfl,rfl,λ_=>rfl⟩
 | e::es,m::ms,i,h=>by
  obtain⟨⟨h1,h2⟩,h3⟩:=h;by_cases hn:e.1=n
  .refine .inr ⟨0,m,e.2,?_,rfl,by rw[h1,hn],by rw[<- hn];rfl,h2,by simp only[zDc];rw[if_pos hn],by simp only[oW];rw[if_pos hn],λy=>by simp only[EJ];rw[if_pos hn];rfl⟩
   simp only[Instr.findNow,h1,Instr.sameNow,if_true];simp_all
  .have hf:Instr.findNow (.int .i64) (.int .i64 n) (m::ms) i=Instr.findNow (.int .i64) (.int .i64 n) ms (i+1):=by
    simp only[Instr.findNow,h1,Instr.sameNow,if_true];grind
   rcases KK z (i:=i+1) h3 with⟨g1,g2,g3,g4⟩|⟨j,m',x,g1,g2,g3,g4,g5,g6,g7,g8⟩
   .exact .inl ⟨hf.trans g1,by simp only[zDc];rw[if_neg hn];exact g2,by simp only[oW];rw[if_neg hn];exact g3,λy=>by simp only[EJ];rw[if_neg hn,g4];rfl⟩
   .exact .inr ⟨j+1,m',x,by rw[hf,g1];congr 3;omega,by simpa using g2,g3,by simpa using g4,g5,by simp only[zDc];rw[if_neg hn];exact g6,by simp only[oW];rw[if_neg hn];exact g7,λy=>by simp only[EJ];rw[if_neg hn,g8];rfl⟩
 | [],_::_,_,h=>h.elim
 | _::_,[],_,h=>h.elim
theorem zHs(hT:bM P T){k e:Nat}(h:(T t).k=.map k e):P.underlying t=some (.map k e):=by
 have hd:=(cC hT (t:=t) (by rw[h];simp)).1;rw[h] at hd;cases hu:P.underlying t with
 | none=>rw[hu] at hd;exact hd.elim
 | some d=>rw[hu] at hd;cases d<;>simp only[iR] at hd<;>(obtain⟨rfl,rfl⟩:=hd;rfl)
theorem zHr(hT:bM P T)(h:zOX (T t).k=true):P.underlying t=some (.int .i64):=by
 refine qM hT ?_;unfold zOX at h;grind
theorem zAI{k:TK}{v:Value}(h:cZ w S x v):cZ w S (zAH T k x) v:=by
 unfold zAH;split
 .exact cZ.nilOf _ h
 .exact h
theorem dU(h:P.underlying t=some (.int .i64))(b:Bool)(n:Int)(w:World):(Instr.checkKey b 10000 t (.int .i64 n)).run P w=.ok () w:=by
 rw[Instr.checkKey];rw[Sem.run_bind,run_underlying h];rfl
theorem eG(h:P.underlying t=some (.int .i64)){r:Option (Nat × Value)}(w:World)(hf:Instr.findNow (.int .i64) (.int .i64 n) ms 0=some r):(Instr.findKey t (.int .i64 n) ms).run P w=.ok r w:=by
 simp only[Instr.findKey,Sem.run_bind,run_underlying h,Result.andThen_ok,hf,Sem.run_pure]
theorem zD0(hT:bM P T)(hi:HInv X){m x:DV}{ok:Bool}(hm:bD X m vm)(hx:bD X x vx)(h:zDZ T (T t).k X.h m x ok λd=>K d X.h):Val X K ((Instr.lookup t vm vx ok).run P X.w):=by
 unfold zDZ at h;split at h
 .rename_i kt et id n hk;split at h
  .rename_i es z he hz;obtain⟨h1,h2,h3,h4⟩:=h;subst hx;obtain⟨g,hg,rfl⟩:=hm.2.2 _ he;have hb:=hi.blk id _ he;obtain⟨g',ms,c,q1,q2,⟨es',hpm,hnd,q3⟩,q4⟩:=hb;rw[hg] at q1;cases q1;have hu:=zHs hT hk;have hki:=zHr hT h1;rw[<- zCi hpm hnd,<- zGw hpm] at h4;obtain⟨_,i,zz,g1,g2,g3,g4,g5,g6,g7⟩:=cC hT h2;have hzz:(zeroValue et).run P X.w=.ok zz X.w:=by simp[zeroValue,typeInfo,g1,g4]
   have hzr:cZ X.w X.S z zz:=by
    have g8:=(g7.2 h3);rw[hz] at g5;have hc:zz.cells.toList=[zz]:=by
     cases zz<;>first|rfl|(simp[Value.oneCell'] at g8;done)
    rw[hc] at g5;simp only[List.map_cons,List.map_nil,List.cons.injEq,and_true] at g5;exact iU g5
   have hzr:=zAI (T:=T) (k:=(T et).k) hzr;rcases KK (zAH T (T et).k z) (i:=0) (n:=n) q3 with⟨f1,f2,f3,f4⟩|⟨j,mm,y,f1,f2,f3,f4,f5,f6,f7,f8⟩
   .rw[f2,f3] at h4;cases ok
    .refine Val.same hi (v:=zz) ?_ (zR hzr) h4;simp[Instr.lookup,run_underlying hu,MapKept.run_getObj_map q2,dU hki,eG hki _ f1,hzz]
    .refine Val.same hi (v:=.tuple #[zz,.bool false]) (d:=.tup [.c (.p (zAH T (T et).k z)),.c (.p (.b false))]) ?_ ⟨[zz,.bool false],rfl,hzr,rfl,True.intro⟩ h4;simp[Instr.lookup,run_underlying hu,MapKept.run_getObj_map q2,dU hki,eG hki _ f1,hzz]
   .rw[f6,f7] at h4;cases ok
    .refine Val.same hi (v:=mm.val) ?_ (zR f5) h4;simp[Instr.lookup,run_underlying hu,MapKept.run_getObj_map q2,dU hki,eG hki _ f1]
    .refine Val.same hi (v:=.tuple #[mm.val,.bool true]) (d:=.tup [.c (.p y),.c (.p (.b true))]) ?_ ⟨[mm.val,.bool true],rfl,f5,rfl,True.intro⟩ h4;simp[Instr.lookup,run_underlying hu,MapKept.run_getObj_map q2,dU hki,eG hki _ f1]
  .exact h.elim
 .simp_all
theorem XT{b:Nat}{ms:Array MapEntry}(h:w.heap[b]?=some (.map ms c))(ms':Array MapEntry)(c':Nat):
  Touched w { w with heap:=w.heap.setIfInBounds b (.map ms' c') } b/\(w.heap.setIfInBounds b (.map ms' c'))[b]?=some (.map ms' c'):=by
 have hlt:b<w.heap.size:=(Array.getElem?_eq_some_iff.1 h).1;have hh:(w.heap.setIfInBounds b (.map ms' c'))[b]?=some (.map ms' c'):=by rw[Array.getElem?_setIfInBounds_self_of_lt hlt]
 refine⟨⟨rfl,rfl,tM.rfl',by simp,λx hx=>?_,.inr ⟨_,_,_,_,h,hh⟩⟩,hh⟩
 grind
theorem zX.len: ∀{es:List (Int × PV)} {ms:List MapEntry},zX w S es ms->es.length=ms.length
 | [],[],_=>rfl
 | _::_,_::_,h=>by simp[zX.len h.2]
 | [],_::_,h=>h.elim
 | _::_,[],h=>h.elim
theorem zX.push(hk:m.key=.int .i64 n)(hv:cZ w S x m.val):∀{es:List (Int × PV)} {ms:List MapEntry},zX w S es ms->zX w S (es++[(n,x)]) (ms++[m])
 | [],[],_=>⟨⟨hk,hv⟩,True.intro⟩
 | _::_,_::_,h=>⟨h.1,zX.push hk hv h.2⟩
 | [],_::_,h=>h.elim
 | _::_,[],h=>h.elim
theorem zX.setAt(hk:m.key=.int .i64 n)(hv:cZ w S x m.val):∀{es:List (Int × PV)} {ms:List MapEntry} (j:Nat),zX w S es ms->zX w S (es.set j (n,x)) (ms.set j m)
 | [],[],_,_=>by simp only[List.set_nil];exact True.intro
 | _::_,_::_,0,h=>⟨⟨hk,hv⟩,h.2⟩
 | _::_,_::_,j+1,h=>⟨h.1,zX.setAt hk hv j h.2⟩
 | [],_::_,_,h=>h.elim
 | _::_,[],_,h=>h.elim
theorem zC9.setAt{m':MapEntry}(hb:m'.born=m.born):∀{ms:List MapEntry} {c:Nat} (j:Nat),ms[j]?=some m->zC9 ms c->zC9 (ms.set j m') c:=by
 intro ms c j hj ⟨h1,h2⟩;have hbn:(ms.set j m').map (·.born)=ms.map (·.born):=by
  apply List.ext_getElem?;grind
 refine⟨?_,λe he=>?_⟩
 .have e1:(ms.set j m').Pairwise (λa b=>a.born<b.born)↔((ms.set j m').map (·.born)).Pairwise (· < ·):=by rw[List.pairwise_map]
  grind
 .grind
theorem zC9.push(hm:m.born=c)(h:zC9 ms c):zC9 (ms++[m]) (c+1):=by
 refine⟨List.pairwise_append.2 ⟨h.1,List.pairwise_singleton _ _,λa ha b hb=>?_⟩,λe he=>?_⟩
 .rw[List.mem_singleton] at hb;subst hb;rw[hm];exact h.2 a ha
 .rcases List.mem_append.1 he with he|he
  .exact Nat.lt_succ_of_lt (h.2 e he)
  .simp_all
theorem zD5(hT:bM P T)(hi:HInv X){m x v:DV}{vv:Value}{K:aD->Prop}(hm:bD X m vm)(hx:bD X x vx)(hv:bD X v vv)(h:zD4 T (T t).k X.h m x v K):Sto X K ((Instr.mapUpdate t vm vx vv).run P X.w):=by
 unfold zD4 at h;split at h
 .rename_i kt et id n c hk;split at h
  .rename_i es y he hp;obtain⟨h1,h4⟩:=h;obtain⟨X1,hw,hh,hG,hst,hi1,hfx⟩:=jD (zFm c) hi;rw[<- hh] at he h4;have hvr:cZ X1.w X1.S (zAH T (T et).k y) vv:=zAI (rL hi hst hw hv hp hfx);generalize zAH T (T et).k y=y at hvr h4;have hm1:bD X1 (.c (.mp id)) vm:=bD.step hst hm;subst hx;obtain⟨g,hg,rfl⟩:=hm1.2.2 _ he;have hb:=hi1.blk id _ he;obtain⟨g',ms,ck,q1,q2,⟨es',hpm,hnd,q3⟩,q4⟩:=hb;rw[hg] at q1;cases q1;have hu:=zHs hT hk;have hki:=zHr hT h1;have fin:∀(ms':Array MapEntry) (c':Nat),zX X1.w X1.S (EJ es' n y) ms'.toList->zC9 ms'.toList c'->Step X (X1.put { X1.w with heap:=X1.w.heap.setIfInBounds g.1 (.map ms' c') } id (.mp (EJ es n y)))/\HInv (X1.put { X1.w with heap:=X1.w.heap.setIfInBounds g.1 (.map ms' c') } id (.mp (EJ es n y))):=by
    intro ms' c' hr hbn;obtain⟨ht,hbk⟩:=XT q2 ms' c';have hs:=Step.put hi1 he rfl rfl hg ht (d:=.mp (EJ es n y)) True.intro rfl;refine⟨hst.trans hi1 hs,HInv.put hi1 he rfl rfl hg ht True.intro rfl ?_⟩;exact⟨g,ms',c',hg,hbk,⟨_,zGx hpm hnd n y,zCP hnd n y,hr.kept hs.kept⟩,hbn⟩
   rcases KK y (i:=0) (n:=n) q3 with⟨f1,f2,f3,f4⟩|⟨j,mm,yy,f1,f2,f3,f4,f5,f6,f7,f8⟩
   .obtain⟨p1,p2⟩:=fin (ms.push { key:=.int .i64 n,val:=vv,born:=ck }) (ck+1) (by rw[f4,Array.toList_push];exact q3.push rfl hvr) (by rw[Array.toList_push];exact q4.push rfl);refine⟨_,?_,p2,p1,h4⟩;rw[<- hw];simp[Instr.mapUpdate,run_underlying hu,MapKept.run_getObj_map q2,dU hki,eG hki _ f1,MapKept.run_setObj_map _ q2,Ctx.put]
   .rw [Nat.zero_add] at f1;have hj:ms[j]?=some mm:=by rw[<- Array.getElem?_toList];exact f2
    have hmod:(ms.modify j λe=>{ e with key:=.int .i64 n,val:=vv }).toList=ms.toList.set j { mm with key:=.int .i64 n,val:=vv }:=by
     apply List.ext_getElem?;grind
    obtain ⟨p1,p2⟩:=fin (ms.modify j λe=>{ e with key:=.int .i64 n,val:=vv }) ck (by rw[f8,hmod];exact q3.setAt rfl hvr j) (by rw[hmod];exact zC9.setAt (m:=mm) (m':={ mm with key:=.int .i64 n,val:=vv }) rfl j f2 q4);refine⟨_,?_,p2,p1,h4⟩;rw[<- hw];have hs:(Instr.keyThatStays (.int .i64 n) (.int .i64 n)).run P X1.w=.ok (.int .i64 n) X1.w:=by
     simp[Instr.keyThatStays,Instr.sameBits]
    simp[Instr.mapUpdate,run_underlying hu,MapKept.run_getObj_map q2,dU hki,eG hki _ f1,hj,f3,hs,MapKept.run_setObj_map _ q2,Ctx.put]
  .exact h.elim
 .simp_all
theorem zBz(hi:HInv X)(h:PN (T t).k X.h K):Val X K ((Instr.makeMap t none).run P X.w):=by
 unfold PN at h;split at h
 .have hw:=Grew.alloc X.w (.map #[] 0);have hp:=Step.push hi hw (.mp []);refine⟨_,_,X.push _ (.mp []),?_,HInv.push hi hw (db:=.mp []) ?_ rfl,hp,tI (x:=.mp X.h.length) ⟨by simp[Ctx.push],rfl,λes he=>⟨(X.w.heap.size,0),by simp[Ctx.push],rfl⟩⟩,h⟩
  .simp[Instr.makeMap,Ctx.push]
  .exact⟨(X.w.heap.size,0),#[],0,by simp[Ctx.push],hw.new,⟨[],List.Perm.refl _,List.nodup_nil,True.intro⟩,List.Pairwise.nil,by simp⟩
 .simp_all
end maps
end Go.Dm
end
section
namespace Go.Dm
open Go
section all
variable {P:Program}{T:Tab}{X:Ctx}{K:DV->aD->Prop}
variable {t:Fr}{a:Act}{o:Oper}{next:Act->World->Prop}{Q:Exit->Act->World->Prop}{x y:DV}{X:Ctx}
theorem qD(hρ:∀x,bD X (evD t x) (a.eval x)):∀l:List Operand,dI X (l.map (evD t)) (l.map a.eval)
 | []=>True.intro
 | x::l=>⟨hρ x,qD hρ l⟩
theorem xU: ∀{xs ys:List DV} {vs us:List Value},dI X xs vs->dI X ys us->dI X (xs++ys) (vs++us)
 | [],_,[],_,_,k=>k
 | _::_,_,_::_,_,h,k=>⟨h.1,xU h.2 k⟩
 | [],_,_::_,_,h,_=>h.elim
 | _::_,_,[],_,h,_=>h.elim
theorem HH: ∀{cs:List KV} {vs:List Value},fQ X cs vs->dI X (cs.map KV.toDV) vs
 | [],[],_=>True.intro
 | c::cs,v::vs,h=>⟨by cases c<;>exact h.1,HH h.2⟩
 | [],_::_,h=>h.elim
 | _::_,[],h=>h.elim
theorem qE(hρ:∀x,bD X (evD t x) (a.eval x)):∀l:List (Nat × Operand),lJ X (l.map λp=>(p.1,evD t p.2)) (l.map λ(i,x)=>(i,a.eval x))
 | []=>True.intro
 | (_,x)::l=>⟨rfl,hρ x,qE hρ l⟩
theorem AF: ∀{ds:List DV} {vs:List Value} {cap:List KV},dI X ds vs->JT ds=some cap->fQ X cap vs
 | [],[],cap,_,h=>by simp only[JT,Option.some.injEq] at h;subst h;exact True.intro
 | d::ds,v::vs,cap,hr,h=>by
  unfold JT at h;split at h
  .simp_all
  .rename_i x ds' heq;cases heq;obtain⟨c,h1,rfl⟩:=Option.map_eq_some_iff.1 h;exact⟨hr.1,AF hr.2 h1⟩
  .rename_i id off ds' heq;cases heq;obtain⟨c,h1,rfl⟩:=Option.map_eq_some_iff.1 h;exact⟨hr.1,AF hr.2 h1⟩
  .cases h
 | [],_::_,_,h,_=>h.elim
 | _::_,[],_,h,_=>h.elim
def Out(X:Ctx)(K:DV->aD->Prop)(o:Oper)(a:Act)(next:Act->World->Prop):Prop :=
 ∀d v X',HInv X'->Step X X'->bD X' d v->K d X'.h->next (a.put o.dst v) X'.w
theorem bN{s:Sem Value}(he:execOp a.eval o=(do pure (.value (<- s))))(hv:Val X K (s.run P X.w))(hK:Out X K o a next):o.wp P a X.w next Q:=by
 obtain⟨v,d,X',h1,h2,h3,h4,h5⟩:=hv;unfold Oper.wp;rw[he];simp only[Sem.run_bind,h1,Result.andThen_ok,Sem.run_pure];exact hK d v X' h2 h3 h4 h5
theorem FR(op:BinOp)(t:TypeId)(ox oy:Operand){x y:Value}(w:World)(h:x.oneCell'=true)(hx:x≠.nilIface):(eqGuard op t ox oy x y).run P w=.ok () w:=by
 unfold eqGuard;cases x<;>first
  | (simp[Value.oneCell'] at h;done)
  | exact absurd rfl hx
  | simp
theorem zMA{x:PV}{v:Value}(hf:(gX x).isSome=true)(h:cA X (.p x) v):gX x=some v:=by
 simp only[cA] at h;cases x<;>simp only[cZ] at h<;>simp only[gX] at hf ⊢
 all_goals first|(rw[h];done)|(cases hf;done)|skip
 simp_all
theorem KL: ∀{xs:List PV} {vs:List Value},xs.all (λx=>(gX x).isSome)=true->bF X (xs.map .p) vs->xs.map gX=vs.map some
 | [],[],_,_=>rfl
 | x::xs,v::vs,hf,h=>by
  rw[List.all_cons,Bool.and_eq_true] at hf;rw[List.map_cons,List.map_cons,zMA hf.1 h.1,KL hf.2 h.2]
 | [],_::_,_,h=>h.elim
 | _::_,[],_,h=>h.elim
theorem zBu{op:BinOp}{t:Nat}{vx vy:Value}{Q:PV->Prop}(hx:bD X x vx)(h:PD op (T t) x y Q):vx.oneCell'=true/\vx≠.nilIface/\bD X y vy=bD X y vy:=by
 unfold PD at h;split at h<;>first
  | exact h.elim
  | (simp only[bD,cA,cZ] at hx;subst hx;exact⟨rfl,by simp,rfl⟩)
  | (simp only[bD,cA] at hx
     split at h<;>first
      | exact h.elim
      | (obtain⟨a,n,c,rfl,_⟩:=LN (X:=X) hx h;exact⟨rfl,by simp,rfl⟩))
theorem zN3{g:FuncId}{ds:List DV}{vals:List Value}(he:(execOp a.eval o).run P X.w=(callFunc g vals.toArray).run P X.w)(hi:HInv X)(gd:Gnd P X)(hr:dI X ds vals)
 (hc:aA P g ds X.h K)(hK:Out X K o a next):o.wp P a X.w next Q:=by
 unfold Oper.wp;rw[he];rcases hc X vals rfl hi gd hr with⟨h1,h2⟩|⟨v,w',h1,h2⟩
 .rw[h1];refine h2.mono λe w' hv=>?_;obtain⟨v,rfl,d,X',rfl,h3,h4,h5,h6⟩:=hv;exact hK d v X' h3 h4 h5 h6
 .rw[h1];obtain⟨d,X',rfl,h3,h4,h5,h6⟩:=h2;exact hK d v X' h3 h4 h5 h6
theorem zGC{o:BinOp}{id:Nat}{b:Bool}(h:zPn o x y=some (id,b)):∃off,x=.c (.ptr id off)/\y=.c (.p (.o (.pointer none)))/\((o=.eql/\b=false)∨(o=.neq/\b=true)):=by
 unfold zPn at h;split at h
 .cases h;exact⟨_,rfl,rfl,.inl ⟨rfl,rfl⟩⟩
 .cases h;exact⟨_,rfl,rfl,.inr ⟨rfl,rfl⟩⟩
 .cases h
theorem AX(hT:bM P T)(hi:HInv X)(gd:Gnd P X)(hρ:∀x,bD X (evD t x) (a.eval x))(h:dop P T o.op t X.h K)(hK:Out X K o a next):
  o.wp P a X.w next Q:=by
 unfold dop at h;split at h
 ·
  rename_i x ho;exact bN (s:=pure (a.eval x)) (by simp[execOp,ho]) (Val.same hi rfl (hρ x) h) hK
 .rename_i x ho;exact bN (s:=pure (a.eval x)) (by simp[execOp,ho]) (Val.same hi rfl (hρ x) h) hK
 ·
  rename_i c x y ho;split at h
  .rename_i v hc;have hcv:=hρ c;rw[hc] at hcv;simp only[bD,cA,cZ] at hcv;refine bN (s:=do pure (if <- asBool (a.eval c) then a.eval x else a.eval y)) (by simp[execOp,ho]) ?_ hK
   cases v
   .exact Val.same hi (by simp[hcv,asBool]) (hρ y) (h.2 rfl)
   .exact Val.same hi (by simp[hcv,asBool]) (hρ x) (h.1 rfl)
  .exact h.elim
 ·
  rename_i ty ho;refine bN (s:=Instr.alloc ty true (.tuple #[])) (by simp[execOp,ho]) ?_ hK;have:(T ty).k≠.no:=by
   intro hk;rw[hk] at h;exact h
  refine zDk hT hi this ?_;split at h
  .exact h.elim
  .exact h
 ·
  rename_i ty x ho;split at h
  .rename_i ys hc;exact bN (s:=Instr.box ty (a.eval x)) (by simp[execOp,ho]) (zLZ hi (hρ x) hc h) hK
  .exact h.elim
 ·
  rename_i ty parts ho;refine bN (s:=Instr.build ty (parts.map λ(i,x)=>(i,a.eval x))) (by simp[execOp,ho]) (zBv hT hi ?_ h) hK;rw[Array.toList_map];exact qE hρ parts.toList
 ·
  rename_i ty len parts ho;refine bN (s:=Instr.buildSlice ty len (parts.map λ(i,x)=>(i,a.eval x))) (by simp[execOp,ho]) (WN hT hi ?_ h) hK;rw[Array.toList_map];exact qE hρ parts.toList
 ·
  rename_i ty x ho;exact bN (s:=Instr.loadAt ty (a.eval x)) (by simp[execOp,ho]) (zDY hT hi h.1 (hρ x) h.2) hK
 ·
  rename_i ty x y ho;obtain⟨X',h1,h2,h3,h4⟩:=zBD hT hi (hρ x) (hρ y) h;unfold Oper.wp;have:execOp a.eval o=(do Instr.storeAt ty (a.eval x) (a.eval y);pure .skip):=by simp[execOp,ho]
  rw[this];simp only[Sem.run_bind,h1,Result.andThen_ok,Sem.run_pure];exact hK (.tup []) undef X' h2 h3 ⟨[],rfl,True.intro⟩ h4
 ·
  rename_i x ho;have hx:=hρ x;have fin:∀{d:DV},(execOp a.eval o).run P X.w=.ok (.value (a.eval x)) X.w->bD X d (a.eval x)->K d X.h->o.wp P a X.w next Q:=λhe hd hk=>by
   unfold Oper.wp;rw[he];exact hK _ _ X hi (Step.refl hi) hd hk
  split at h
  .rename_i id off he;split at h
   .rename_i cells hh;rw[he] at hx;have hx':=hx;obtain⟨_,_,h3⟩:=hx;obtain⟨g,_,hv⟩:=h3 _ hh;exact fin (by simp[execOp,ho,hv]) hx' h
   .exact h.elim
  .rename_i cs he;rw[he] at hx;have hx':=hx;obtain⟨bl,off,hv,_⟩:=hx;exact fin (by simp[execOp,ho,hv]) hx' h
  .rename_i f cap he;rw[he] at hx;have hx':=hx;obtain⟨vs,hv,_⟩:=hx;exact fin (by simp[execOp,ho,hv]) hx' h
  .exact h.elim
 ·
  rename_i op ty x y ty' ho;split at h
  .rename_i id b hq;obtain⟨off,e1,e2,e3⟩:=zGC hq;unfold zOg at h;split at h
   .rename_i e c hk hh;have hx:=hρ x;have hy:=hρ y;rw[e1] at hx;rw[e2] at hy;obtain⟨_,_,h3⟩:=hx;obtain⟨g,_,hv⟩:=h3 _ hh;have hy2:a.eval y=.pointer none:=hy.1;refine bN (s:=do eqGuard op ty x y (a.eval x) (a.eval y);binOp op ty (a.eval x) (a.eval y)) (by simp[execOp,ho]) ?_ hK
    rw[hv,hy2];simp only[Sem.run_bind,FR op ty x y (x:=.pointer (some ⟨g.1,g.2+off,none⟩)) X.w rfl (by simp),Result.andThen_ok];have he:=MP (zNR hT hk) ⟨g.1,g.2+off,none⟩ X.w;rcases e3 with⟨rfl,rfl⟩|⟨rfl,rfl⟩
    .exact Val.same hi (by simp only[binOp,Sem.run_bind,he];rfl) (zR (iU rfl)) h
    .exact Val.same hi (by simp only[binOp,Sem.run_bind,he];rfl) (zR (iU rfl)) h
   .exact h.elim
  rcases h with h|⟨xs,ys,b,e1,e2,f1,f2,⟨q1,q2⟩,h⟩;rotate_left 1
  .have hx:=hρ x;have hy:=hρ y;rw[e1] at hx;rw[e2] at hy;obtain⟨vx,hvx,hrx⟩:=hx;obtain⟨vy,hvy,hry⟩:=hy;have hq:=q2 vx vy X.w (KL f1 hrx) (KL f2 hry);refine bN (s:=do eqGuard op ty x y (a.eval x) (a.eval y);binOp op ty (a.eval x) (a.eval y)) (by simp[execOp,ho]) ?_ hK
   rw[hvx,hvy];simp only[Sem.run_bind,run_eqGuard_agg X.w op ty x y vx.toArray vy.toArray q1,Result.andThen_ok];rcases h with⟨rfl,h⟩|⟨rfl,h⟩
   .exact Val.same hi (by rw[run_eql_struct,hq];rfl) (zR (iU rfl)) h
   .exact Val.same hi (by rw[run_neq_struct,hq];rfl) (zR (iU rfl)) h
  have hg:=zBu (vy:=a.eval y) (hρ x) h;refine bN (s:=do eqGuard op ty x y (a.eval x) (a.eval y);binOp op ty (a.eval x) (a.eval y)) (by simp[execOp,ho]) ?_ hK
  have:=zIh hT hi op ty (hρ x) (hρ y) h;simp only[Sem.run_bind,FR op ty x y X.w hg.1 hg.2.1,Result.andThen_ok];exact this
 ·
  rename_i op ty x ho;exact bN (s:=Op.unary op (a.eval x)) (by simp[execOp,ho]) (zMn hi op (hρ x) h) hK
 ·
  rename_i src dst x ho;exact bN (s:=convert src dst (a.eval x)) (by simp[execOp,ho]) (zDR hT hi (hρ x) h) hK
 ·
  rename_i ty x lo hi' ho;exact bN (s:=Instr.sliceAt ty (a.eval x) (lo.map a.eval) (hi'.map a.eval) none) (by simp[execOp,ho]) (zBC hT hi hρ (hρ x) h) hK
 ·
  rename_i ty x lo hi' mx ho;exact bN (s:=Instr.sliceAt ty (a.eval x) (lo.map a.eval) (hi'.map a.eval) (some (a.eval mx))) (by simp[execOp,ho]) (zDU hT hi hρ (hρ x) h) hK
 ·
  rename_i s x f ho;exact bN (s:=Instr.fieldAt s (a.eval x) f) (by simp[execOp,ho]) (zBx hT hi (hρ x) h) hK
 ·
  rename_i ty x f ho;split at h
  .rename_i fs cells hk he;split at h
   .rename_i ft off hf;obtain⟨fields,hu,hfs⟩:=nI hT hk;have hx:=hρ x;rw[he] at hx;obtain⟨vs,hv,hr⟩:=hx;obtain⟨d,v,h1,h2,h3⟩:=PO (X:=X) hT hr h;refine bN (s:=Instr.field ty (a.eval x) f) (by simp[execOp,ho]) (Val.same hi (v:=v) ?_ h2 h3) hK;rw[<- hfs,List.getElem?_map] at hf;obtain⟨fd,h4,h5⟩:=Option.map_eq_some_iff.1 hf;simp only[Prod.mk.injEq] at h5;obtain⟨rfl,rfl⟩:=h5;have h6:fields[f]?=some fd:=by simpa using h4
    simp[Instr.field,run_underlying hu,h6,hv,asAgg,h1]
   .exact h.elim
  .exact h.elim
 ·
  rename_i ty x i ho;exact bN (s:=Instr.indexAt ty (a.eval x) (a.eval i)) (by simp[execOp,ho]) (WT hT hi gd (hρ x) (hρ i) h) hK
 .rename_i ty x i ho;exact bN (s:=Instr.index ty (a.eval x) (a.eval i)) (by simp[execOp,ho]) (zBy hT hi (hρ x) (hρ i) h) hK
 ·
  rename_i x n ho;split at h
  .rename_i xs he;split at h
   .rename_i e hn;have hx:=hρ x;rw[he] at hx;obtain⟨vs,hv,hr⟩:=hx;have:∀(xs:List EV) (vs:List Value) (n:Nat) (e:EV),cO X xs vs->xs[n]?=some e->∃v,vs[n]?=some v/\eD X e v:=by
     intro xs
     induction xs with
     | nil=>intro vs n e _ hn;simp at hn
     | cons c cs ih =>
      intro vs n e hr hn;cases vs with
      | nil=>exact hr.elim
      | cons v vs =>
       cases n with
       | zero=>simp only[List.getElem?_cons_zero,Option.some.injEq] at hn;subst hn;exact⟨v,rfl,hr.1⟩
       | succ n=>simp only[List.getElem?_cons_succ] at hn ⊢;exact ih vs n e hr.2 hn
    obtain⟨v,h1,h2⟩:=this xs vs n e hr hn;refine bN (s:=Instr.extract (a.eval x) n) (by simp[execOp,ho]) (Val.same hi (v:=v) ?_ (by cases e<;>exact h2) h) hK;simp[Instr.extract,hv,h1]
   .exact h.elim
  .exact h.elim
 ·
  rename_i f first captured ho
  split at h
  .rename_i cap h1 h2;have hf:first = #[]:=Array.toList_inj.1 (by simpa using h1)
   subst hf;refine bN (s:=Instr.makeFunc (.func f) (#[].map a.eval) (captured.map a.eval)) (by simp[execOp,ho]) (Val.same hi (v:=.func (.func f) #[] (captured.map a.eval)) (by simp[Instr.makeFunc]) (tI (x:=.clo f cap) ⟨(captured.toList.map a.eval),congrArg (Value.func (.func f) #[]) (by apply Array.ext';simp),AF (qD hρ _) h2⟩) h) hK
  .exact h.elim
 ·
  rename_i ty l c ho;exact bN (s:=Instr.makeSlice ty (a.eval l) (a.eval c)) (by simp[execOp,ho]) (zD2 hT hi (hρ l) (hρ c) h) hK
 ·
  rename_i ty ho;exact bN (s:=Instr.makeMap ty none) (by simp[execOp,ho]) (zBz hi h) hK
 ·
  rename_i ty m x ok ho;exact bN (s:=Instr.lookup ty (a.eval m) (a.eval x) ok) (by simp[execOp,ho]) (zD0 hT hi (hρ m) (hρ x) h) hK
 ·
  rename_i ty m x v ho;obtain⟨X',h1,h2,h3,h4⟩:=zD5 hT hi (hρ m) (hρ x) (hρ v) h;unfold Oper.wp;have:execOp a.eval o=(do Instr.mapUpdate ty (a.eval m) (a.eval x) (a.eval v);pure .skip):=by simp[execOp,ho]
  rw[this];simp only[Sem.run_bind,h1,Result.andThen_ok,Sem.run_pure];exact hK (.tup []) undef X' h2 h3 ⟨[],rfl,True.intro⟩ h4
 ·
  rename_i c ho;split at h
  .rename_i f hf;split at h
   .rename_i g cap he;have hx:=hρ f;rw[he] at hx;obtain⟨vs,hv,hr⟩:=hx;refine zN3 (g:=g) (vals:=c.args.toList.map a.eval++vs) ?_ hi gd (xU (qD hρ _) (HH hr)) h hK;simp only[execOp,ho,resolve,hf,hv,Deferred.ofValue,Sem.run_bind,Sem.run_pure,Result.andThen_ok,invoke]
    congr 2
    apply Array.ext';simp
   .exact h.elim
  .rename_i hf;split at h
   .rename_i ty tys x h1 h2;have ha:c.args = #[x]:=by apply Array.ext';simpa using h2
    have ht:c.argTypes[0]?=some ty:=by rw[<- Array.getElem?_toList,h1];rfl
    refine bN (s:=Builtin.len_ c.argTypes o.type #[a.eval x]) (by simp[execOp,ho,resolve,hf,invoke,builtin,ha]) (zIj hT hi ht (hρ x) h) hK
   .exact h.elim
  .rename_i hf;split at h
   .rename_i ty tu x y h1 h2;have ha:c.args = #[x,y]:=by apply Array.ext';simpa using h2
    have ht:c.argTypes = #[ty,tu]:=by apply Array.ext';simpa using h1
    refine bN (s:=Builtin.append_ #[ty,tu] o.type #[a.eval x,a.eval y]) (by simp[execOp,ho,resolve,hf,invoke,builtin,ha,ht]) (WL hT hi (hρ x) (hρ y) h) hK
   .exact h.elim
  .rename_i hf;refine bN (s:=Builtin.min_ c.argTypes o.type (c.args.toList.map a.eval).toArray) ?_ (zD3 (ts:=c.argTypes) (ty:=o.type) hi (lt:=true) (qD hρ _) h) hK;have:(c.args.toList.map a.eval).toArray=c.args.map a.eval:=by apply Array.ext';simp
   rw[this];simp[execOp,ho,resolve,hf,invoke,builtin]
  .rename_i hf;refine bN (s:=Builtin.max_ c.argTypes o.type (c.args.toList.map a.eval).toArray) ?_ (zD3 (ts:=c.argTypes) (ty:=o.type) hi (lt:=false) (qD hρ _) h) hK;have:(c.args.toList.map a.eval).toArray=c.args.map a.eval:=by apply Array.ext';simp
   rw[this];simp[execOp,ho,resolve,hf,invoke,builtin]
  .rename_i hf;split at h
   .rename_i ty x h1 h2;have ha:c.args = #[x]:=by apply Array.ext';simpa using h2
    have ht:c.argTypes = #[ty]:=by apply Array.ext';simpa using h1
    refine bN (s:=Builtin.clear_ #[ty] o.type #[a.eval x]) (by simp[execOp,ho,resolve,hf,invoke,builtin,ha,ht]) (zBw hT hi (hρ x) h) hK
   .exact h.elim
  .exact h.elim
 .exact h.elim
end all
end Go.Dm
end
section
namespace Go.Dm
open Go
variable {X:Ctx}{s:DS}{a:Act}
structure TInv (X:Ctx) (s:DS) (a:Act):Prop where
 size:a.tmps.size=s.n
 rel:∀i:Nat,bD X (look s.t i) (a.tmps.getD i undef)
 defs:a.defers=[]
theorem TInv.step{X':Ctx}(hs:Step X X')(h:TInv X s a):TInv X' s a:=⟨h.size,λi=>(h.rel i).step hs,h.defs⟩
theorem TInv.ev(h:TInv X s a)(x:Operand):bD X (evD s.t x) (a.eval x):=zMw h.rel x
theorem TInv.put(h:TInv X s a){d:DV}{v:Value}(hd:bD X d v)(o:Option Tmp)(h':aD):TInv X (s.put o d h') (a.put o v):=by
 cases o with
 | none=>exact⟨h.size,h.rel,h.defs⟩
 | some i =>
  simp only[Act.put,DS.put];by_cases hlt:i<s.n
  .rw[if_pos hlt];refine⟨by simp[h.size],λj=>?_,h.defs⟩
   simp only[look];rw[Array.getD_eq_getD_getElem?];by_cases hij:j=i
   .subst hij;rw[if_pos rfl,Array.getElem?_setIfInBounds_self_of_lt (by rw[h.size];exact hlt)];exact hd
   .rw[if_neg hij,Array.getElem?_setIfInBounds_ne (λe=>hij e.symm),<- Array.getD_eq_getD_getElem?];exact h.rel j
  .rw[if_neg hlt];refine⟨by simp[h.size],λj=>?_,h.defs⟩
   have:=h.rel j;have hset:a.tmps.setIfInBounds i v=a.tmps:=Array.setIfInBounds_eq_of_size_le (by rw[h.size];exact Nat.le_of_not_lt hlt);rw[hset];exact this
def zHR(X0:Ctx)(Q:Exit->DS->Prop):Exit->Act->World->Prop:=λe a w=>∃s X,Q e s/\X.w=w/\X.h=s.h/\HInv X/\Step X0 X/\TInv X s a
def SWP(P:Program)(X0:Ctx)(c:Code)(s:DS)(Q:Exit->DS->Prop):Prop :=
 Gnd P X0->∀(X:Ctx) (a:Act),X.h=s.h->HInv X->Step X0 X->TInv X s a->c.wp P (zHR X0 Q) a X.w
section rules
variable {P:Program}{T:Tab}{X0:Ctx}{s:DS}{Q:Exit->DS->Prop}
variable {ops:Array Oper}{id n i:Nat}{c x y:Code}{X X0:Ctx}{v:Value}{s':DS}
theorem vZ(hT:bM P T)(gd:Gnd P X0):∀(l:List Oper) {s:DS} {X:Ctx} {a:Act},X.h=s.h->HInv X->Step X0 X->TInv X s a->jI P T ops l s (λs'=>Q .normal s')->wpList P ops (zHR X0 Q) l a X.w
 | [],s,X,a,hh,hi,hs,ht,h=>wpList_nil ⟨s,X,h,rfl,hh,hi,hs,ht⟩
 | o::rest,s,X,a,hh,hi,hs,ht,h=>by
  refine wpList_step λK hK=>?_;have go:dop P T o.op s.t s.h (λd h'=>jI P T ops rest (s.put o.dst d h') (λs'=>Q .normal s'))->o.wp P a X.w K (zHR X0 Q):=by
   intro hd;rw[<- hh] at hd;refine AX hT hi (gd.step hs) ht.ev hd λd v X' h1 h2 h3 h4=>hK _ _ ?_;refine vZ hT gd rest (s:=s.put o.dst d X'.h) ?_ h1 (hs.trans hi h2) ?_ h4
   .unfold DS.put;split<;>(try split)<;>rfl
   .exact(ht.step h2).put h3 o.dst X'.h
  have skip:jI P T ops rest (s.put o.dst (.tup []) s.h) (λs'=>Q .normal s')->K (a.put o.dst undef) X.w:=by
   intro hd;refine hK _ _ (vZ hT gd rest (s:=s.put o.dst (.tup []) s.h) (by rw[hh];unfold DS.put;split<;>(try split)<;>rfl) hi hs (ht.put (d:=.tup []) (v:=undef) ⟨[],rfl,True.intro⟩ o.dst s.h) hd)
  simp only[jI] at h;split at h
  .rename_i hg;rw[if_pos (by simp[Region.wanted,hg])];exact go h
  .rename_i j want hg;have hy:∀d,((ops[j]?).bind (·.dst)).map (λi=>look s.t i)=some d->∃i,(ops[j]?).bind (·.dst)=some i/\bD X d (a.tmps.getD i undef):=by
    intro d hd;obtain⟨i,h1,h2⟩:=Option.map_eq_some_iff.1 hd;exact⟨i,h1,h2▸ht.rel i⟩
   split at h
   .rename_i v hd;obtain⟨i,h1,h3⟩:=hy _ hd;simp only[bD,cA,cZ] at h3;have hv:a.tmps[i]?=some (.bool v):=by
     rcases Nat.lt_or_ge i a.tmps.size with hlt'|hge
     .rw[Array.getElem?_eq_getElem hlt'];simp only[Array.getD,hlt',dif_pos] at h3
      congr 1
     .rw[Array.getD_eq_getD_getElem?,Array.getElem?_eq_none hge] at h3;cases h3
    have hyd:yielded ops a.tmps j=some v:=by
     unfold yielded;rw[h1];simp only[Option.bind_some,hv]
    by_cases hw:v=want
    .rw[if_pos (by simp[Region.wanted,hg,hyd,hw])];exact go (h.1 hw)
    .rw[if_neg (by simp[Region.wanted,hg,hyd,hw])];exact skip (h.2 hw)
   .rename_i hd;obtain⟨i,h1,vs,hv,hr⟩:=hy _ hd;have hvs:vs=[]:=by
     cases vs with
     | nil=>rfl
     | cons _ _=>exact hr.elim
    subst hvs;have hyd:yielded ops a.tmps j=none:=by
     unfold yielded;rw[h1];simp only[Option.bind_some];rw[Array.getD_eq_getD_getElem?] at hv;cases hx:a.tmps[i]? with
     | none=>rfl
     | some u=>rw[hx] at hv;simp only[Option.getD_some] at hv;rw[hv]
    rw[if_neg (by simp[Region.wanted,hg,hyd])];exact skip h
   .exact h.elim
theorem zCV(hT:bM P T)(h:jI P T ops ops.toList s (λs'=>Q .normal s')):SWP P X0 (.region id ops false) s Q :=
 λgd _ _ hh hi hs ht=>wp_region_list (vZ hT gd ops.toList hh hi hs ht h)
theorem fW{Q':Exit->DS->Prop}(h:SWP P X0 c s Q)(hq:∀e s,Q e s->Q' e s):SWP P X0 c s Q' :=
 λgd X a hh hi hs ht=>wp_mono (h gd X a hh hi hs ht) λ_ _ _ ⟨s',X',h1,h2⟩=>⟨s',X',hq _ _ h1,h2⟩
theorem DQ(h:SWP P X0 x s λe s'=>match e with|.normal=>SWP P X0 y s' Q|e=>Q e s'):SWP P X0 (.seq x y) s Q:=by
 intro gd X a hh hi hs ht;refine wp_seq (wp_mono (h gd X a hh hi hs ht) λe a w hp=>?_);obtain⟨s',X',h1,rfl,h3,h4,h5,h6⟩:=hp;cases e<;>simp only[Exit.then] at h1 ⊢
 case normal=>exact h1 gd X' a h3 h4 h5 h6
 all_goals exact⟨s',X',h1,rfl,h3,h4,h5,h6⟩
theorem zKI(h:Q .normal s):SWP P X0 .skip s Q:=λ_ X _ hh hi hs ht=>wp_skip ⟨s,X,h,rfl,hh,hi,hs,ht⟩
theorem zNH(h:Q .ret s):SWP P X0 .ret s Q:=λ_ X _ hh hi hs ht=>wp_ret ⟨s,X,h,rfl,hh,hi,hs,ht⟩
theorem zKF(h:Q (.exit id) s):SWP P X0 (.exit id) s Q:=λ_ X _ hh hi hs ht=>wp_exit ⟨s,X,h,rfl,hh,hi,hs,ht⟩
theorem zKE{c:Operand}{t:Bool}(hc:evD s.t c=.c (.p (.b t)))(h1:t=true->SWP P X0 x s Q)(h2:t=false->SWP P X0 y s Q):SWP P X0 (.cond c x y) s Q:=by
 intro gd X a hh hi hs ht;have:=ht.ev c;rw[hc] at this;simp only[bD,cA,cZ] at this;exact wp_cond_split this (λe=>h1 e gd X a hh hi hs ht) (λe=>h2 e gd X a hh hi hs ht)
theorem VB(h:SWP P X0 c s λe s'=>match e with|.exit id'=>if id'=id then Q .normal s' else Q (.exit id') s'|e=>Q e s'):SWP P X0 (.block id c) s Q:=by
 intro gd X a hh hi hs ht;refine wp_block (wp_mono (h gd X a hh hi hs ht) λe a w hp=>?_);obtain⟨s',X',h1,rfl,h3,h4,h5,h6⟩:=hp;cases e<;>simp only[Exit.inBlock] at h1 ⊢
 case exit id' =>
  split
  .rename_i he;rw[if_pos he] at h1;exact⟨s',X',h1,rfl,h3,h4,h5,h6⟩
  .rename_i he;rw[if_neg he] at h1;exact⟨s',X',h1,rfl,h3,h4,h5,h6⟩
 all_goals exact⟨s',X',h1,rfl,h3,h4,h5,h6⟩
def iI(n:Nat):KV->Bool
 | .p _=>true
 | .ptr id _=>decide (id<n)
def aJ(n:Nat):CV->Bool
 | .p _=>true
 | .own id _ _=>decide (id<n)
 | .ptr id _=>decide (id<n)
 | .aptr id _ _=>decide (id<n)
 | .mp id=>decide (id<n)
 | .bs id _=>decide (id<n)
 | .eptr _=>true
 | .full _ _=>true
 | .clo _ cap=>cap.all (iI n)
def pD(n:Nat):EV->Bool
 | .c x=>aJ n x
 | .agg xs=>xs.all (aJ n)
def aL(n:Nat):DV->Bool
 | .jk=>true
 | .c x=>aJ n x
 | .agg xs=>xs.all (aJ n)
 | .tup xs=>xs.all (pD n)
def bP(n:Nat):DB->Bool
 | .dead=>true
 | .box cells=>cells.all (aJ n)
 | .arr _ _ _=>true
 | .mp _=>true
def Ctx.cut(X:Ctx)(n:Nat):Ctx:=⟨X.w,X.S,X.G,X.h.take n⟩
theorem fR{db:DB}(h:(X.cut n).h[i]?=some db):X.h[i]?=some db/\i<n:=by
 simp only[Ctx.cut] at h;rw[List.getElem?_take] at h;split at h
 .rename_i hlt;exact⟨h,hlt⟩
 .cases h
theorem vX(h1:i<X.h.length)(h2:i<n):i<(X.cut n).h.length:=by simp only[Ctx.cut,List.length_take];omega
theorem sD.cut{c:KV}(hc:iI n c=true)(h:sD X c v):sD (X.cut n) c v:=by
 cases c<;>simp only[iI,decide_eq_true_eq] at hc<;>simp only[sD] at h ⊢
 case p=>exact h
 case ptr id off=>exact⟨vX h.1 hc,h.2.1,λcells hh=>h.2.2 cells (fR hh).1⟩
theorem fQ.cut: ∀{cs:List KV} {vs:List Value},cs.all (iI n)=true->fQ X cs vs->fQ (X.cut n) cs vs
 | [],[],_,_=>True.intro
 | _::_,_::_,hc,h=>by
  simp only[List.all_cons,Bool.and_eq_true] at hc;exact⟨h.1.cut hc.1,fQ.cut hc.2 h.2⟩
 | [],_::_,_,h=>h.elim
 | _::_,[],_,h=>h.elim
theorem cA.cut{c:CV}(hc:aJ n c=true)(h:cA X c v):cA (X.cut n) c v:=by
 cases c<;>simp only[aJ,decide_eq_true_eq] at hc<;>simp only[cA] at h ⊢
 case p=>exact h
 case own id off len=>exact⟨vX h.1 hc,h.2.1,λk es ro hh=>h.2.2 k es ro (fR hh).1⟩
 case ptr id off=>exact⟨vX h.1 hc,h.2.1,λcells hh=>h.2.2 cells (fR hh).1⟩
 case aptr id i j=>exact⟨vX h.1 hc,h.2.1,λk es ro hh=>h.2.2 k es ro (fR hh).1⟩
 case mp id=>exact⟨vX h.1 hc,h.2.1,λes hh=>h.2.2 es (fR hh).1⟩
 case bs id n=>exact⟨vX h.1 hc,h.2.1,λcells hh=>h.2.2 cells (fR hh).1⟩
 case eptr=>exact h
 case full=>exact h
 case clo f cap=>obtain⟨vs,h1,h2⟩:=h;exact⟨vs,h1,h2.cut hc⟩
theorem bF.cut: ∀{cs:List CV} {vs:List Value},cs.all (aJ n)=true->bF X cs vs->bF (X.cut n) cs vs
 | [],[],_,_=>True.intro
 | _::_,_::_,hc,h=>by
  simp only[List.all_cons,Bool.and_eq_true] at hc;exact⟨h.1.cut hc.1,bF.cut hc.2 h.2⟩
 | [],_::_,_,h=>h.elim
 | _::_,[],_,h=>h.elim
theorem eD.cut{c:EV}(hc:pD n c=true)(h:eD X c v):eD (X.cut n) c v:=by
 cases c<;>simp only[pD] at hc<;>simp only[eD] at h ⊢
 .exact h.cut hc
 .obtain⟨vs,h1,h2⟩:=h;exact⟨vs,h1,h2.cut hc⟩
theorem cO.cut: ∀{cs:List EV} {vs:List Value},cs.all (pD n)=true->cO X cs vs->cO (X.cut n) cs vs
 | [],[],_,_=>True.intro
 | _::_,_::_,hc,h=>by
  simp only[List.all_cons,Bool.and_eq_true] at hc;exact⟨h.1.cut hc.1,cO.cut hc.2 h.2⟩
 | [],_::_,_,h=>h.elim
 | _::_,[],_,h=>h.elim
theorem bD.cut{d:DV}(hc:aL n d=true)(h:bD X d v):bD (X.cut n) d v:=by
 cases d<;>simp only[aL] at hc<;>simp only[bD] at h ⊢
 .exact h.cut hc
 .obtain⟨vs,h1,h2⟩:=h;exact⟨vs,h1,h2.cut hc⟩
 .obtain⟨vs,h1,h2⟩:=h;exact⟨vs,h1,h2.cut hc⟩
theorem FF{α:Type}{p:α->Bool}{l:List α}{x:α}(h:l.all p=true)(hx:l[i]?=some x):p x=true:=List.all_eq_true.1 h x (List.mem_of_getElem? hx)
theorem HInv.cut(hi:HInv X)(hc:(X.h.take n).all (bP n)=true):HInv (X.cut n) where
 slt:=hi.slt
 blk:=λid db h=>by
  have hcl:=FF hc h;obtain⟨h1,h2⟩:=fR h;have hb:=hi.blk id db h1;cases db<;>simp only[eC] at hb ⊢
  case box cells =>
   obtain⟨g,arr,el,fz,h3,h4,h5,h6,h7⟩:=hb;refine⟨g,arr,el,fz,h3,h4,h5,h6,cU.mk λj c hj=>?_⟩;obtain⟨v,h8,h9⟩:=h7.at_ hj;exact⟨v,h8,h9.cut (FF (show cells.all (aJ n)=true from hcl) hj)⟩
  case arr=>exact hb
  case mp=>exact hb
 own:=λid db g h hl hg=>hi.own id db g (fR h).1 hl hg
 inj:=λid db id' db' g g' h hl hf h' hl' hg hg' he=>hi.inj id db id' db' g g' (fR h).1 hl hf (fR h').1 hl' hg hg' he
theorem Step.cut(hs:Step X0 X)(hn:X0.h.length<=n):Step X0 (X.cut n) where
 size:=hs.size
 os:=hs.os
 tape:=hs.tape
 output:=hs.output
 kept:=hs.kept
 len:=by simp only[Ctx.cut,List.length_take];have:=hs.len;omega
 ids:=λid db' hid h hl=>hs.ids id db' hid (fR h).1 hl
 frame:=hs.frame
 mine:=λid db g h hl hf hg=>hs.mine id db g (fR h).1 hl hf hg
 upper:=hs.upper
def WkT(n:Nat)(t:Fr):Fr->Prop
 | []=>True
 | p::t'=>(look t p.1=p.2/\aL n p.2=true)/\WkT n t t'
theorem WkT.look{t:Fr}:∀{t':Fr},WkT n t t'->∀i,look t' i=.jk∨(look t' i=Dm.look t i/\aL n (look t' i)=true)
 | [],_,_=>.inl rfl
 | p::t',h,i=>by
  simp only[Dm.look];split
  .rename_i hi;subst hi;exact .inr ⟨h.1.1.symm,h.1.2⟩
  .exact WkT.look h.2 i
def FE(n0:Nat)(s s':DS):Prop:=s'.n=s.n/\n0<=s'.h.length/\s'.h=s.h.take s'.h.length/\s'.h.all (bP s'.h.length)=true/\WkT s'.h.length s.t s'.t
theorem FE.use{n0:Nat}{s:DS}(h:FE n0 s s'){a:Act}(hn:X0.h.length=n0)(hh:X.h=s.h)(hi:HInv X)(hs:Step X0 X)(ht:TInv X s a):∃X',X'.w=X.w/\X'.h=s'.h/\HInv X'/\Step X0 X'/\TInv X' s' a:=by
 obtain⟨h0,h1,h2,h3,h4⟩:=h;have hcut:(X.cut s'.h.length).h=s'.h:=by simp only[Ctx.cut];rw[hh];exact h2.symm
 refine⟨X.cut s'.h.length,rfl,hcut,hi.cut (by rw[hh,<- h2];exact h3),hs.cut (by omega),ht.size.trans h0.symm,λi=>?_,ht.defs⟩;rcases h4.look i with h5|⟨h5,h6⟩
 .rw[h5];exact True.intro
 .have:=ht.rel i;rw[<- h5] at this;exact this.cut h6
theorem zA4(hw:FE X0.h.length s s')(h:SWP P X0 c s' Q):SWP P X0 c s Q:=by
 intro gd X a hh hi hs ht;obtain⟨X',h1,h2,h3,h4,h5⟩:=hw.use rfl hh hi hs ht;rw[<- h1];exact h gd X' a h2 h3 h4 h5
theorem zKJ(i k:Nat)(hn:look s.t i=.c (.p .nil))(h:SWP P X0 c ⟨s.n,(i,.c (.own s.h.length 0 0))::s.t,s.h++[.arr k [] false]⟩ Q):SWP P X0 c s Q:=by
 intro gd X a hh hi hs ht;obtain⟨h1,h2⟩:=virt hi k;refine h gd (X.virt k) a (by simp[Ctx.virt,hh]) h2 (hs.trans hi h1) ⟨ht.size,λj=>?_,ht.defs⟩;simp only[look];split
 .rename_i hij;subst hij;have:=ht.rel j;rw[hn] at this;rw[<- hh];exact tI (iQ (X:=X) (k:=k) this)
 .exact(ht.rel j).step h1
section
variable {P:Program}{T:Tab}{X0:Ctx}{s:DS}{Q:Exit->DS->Prop}
end
end rules
end Go.Dm
end
section
namespace Go.Dm
open Go
def nR(T:Tab)(s:DS):List ResultVar->(List EV->Prop)->Prop
 | [],K=>K []
 | .tmp t::rs,K =>
  match look s.t t with
  | .c x=>nR T s rs λes=>K (.c x::es)
  | .agg xs=>nR T s rs λes=>K (.agg xs::es)
  | _=>False
 | .cell a ty::rs,K=>(T ty).size≠0/\vY (T ty) s.h (look s.t a) λd =>
  match d with
  | .c x=>nR T s rs λes=>K (.c x::es)
  | .agg xs=>nR T s rs λes=>K (.agg xs::es)
  | _=>False
def KD:List EV->DV
 | [e]=>e.toDV
 | es=>.tup es
def zJa(h:aD):EV->Option EV
 | .c x=>(WK h x).map .c
 | .agg xs=>(pvs h xs).map λys=>.agg (ys.map .p)
def FP(h:aD):List EV->Option (List EV)
 | []=>some []
 | e::es=>match zJa h e,FP h es with
  | some x,some xs=>some (x::xs)
  | _,_=>none
def zQo:EV->List Nat
 | .c x=>zFm x
 | .agg xs=>BM xs
def zBE:List EV->List Nat
 | []=>[]
 | e::es=>zQo e++zBE es
def zGU(h:aD):DV->Option DV
 | .tup es=>(FP h es).map .tup
 | d=>WU h d
def zNj:DV->List Nat
 | .tup es=>zBE es
 | d=>zOx d
def Fin(n:Nat)(h:aD)(d:DV)(R:DV->aD->Prop):Prop :=
 R d h ∨
 (∃d',zGU h d=some d'/\((sN h (zNj d)).take n).all (bP n)=true/\R d' ((sN h (zNj d)).take n)) ∨
 (∃id len k es,d=.c (.own id 0 len)/\n<=id/\h[id]?=some (.arr k es false)/\(h.take n).all (bP n)=true/\R (.c (.own n 0 len)) (h.take n++[.arr k es false]))
def dpost(T:Tab)(n:Nat)(rs:List ResultVar)(R:DV->aD->Prop):Exit->DS->Prop
 | .normal,s=>nR T s rs λes=>Fin n s.h (KD es) R
 | .ret,s=>nR T s rs λes=>Fin n s.h (KD es) R
 | _,_=>False
def zCy(tmps:Array Value):ResultVar->Sem Value
 | .tmp t=>pure (tmps.getD t undef)
 | .cell b t=>do loadVar t (<- asAddr (tmps.getD b undef))
theorem zCA(fn:Func)(tmps:Array Value):results fn tmps=(do let vs <- fn.results.mapM (zCy tmps);pure (if h:vs.size=1 then vs[0] else .tuple vs)):=by
 unfold results
 congr 2
section fin
variable {P:Program}{T:Tab}{X0:Ctx}
variable {X X' Y:Ctx}{s:DS}{a:Act}{e:EV}{v:Value}{fn:Func}{d:DV}{R:DV->aD->Prop}
theorem pI(hT:bM P T)(hh:X.h=s.h)(hi:HInv X)(ht:TInv X s a):∀(rs:List ResultVar) {K:List EV->Prop},nR T s rs K ->
  ∃es vs,K es/\cO X es vs/\(rs.mapM (zCy a.tmps)).run P X.w=.ok vs X.w
 | [],K,h=>⟨[],[],h,True.intro,by simp⟩
 | .tmp t::rs,K,h=>by
  simp only[nR] at h;have hr:=ht.ev (.tmp t);simp only[evD,Act.eval] at hr;split at h
  .rename_i x he;rw[he] at hr;obtain⟨es,vs,h1,h2,h3⟩:=pI hT hh hi ht rs h;exact⟨_,_::vs,h1,⟨hr,h2⟩,by rw[List.mapM_cons];simp only[zCy,Sem.run_bind,Sem.run_pure,Result.andThen_ok,h3]⟩
  .rename_i xs he;rw[he] at hr;obtain⟨es,vs,h1,h2,h3⟩:=pI hT hh hi ht rs h;exact⟨_,_::vs,h1,⟨hr,h2⟩,by rw[List.mapM_cons];simp only[zCy,Sem.run_bind,Sem.run_pure,Result.andThen_ok,h3]⟩
  .exact h.elim
 | .cell b ty::rs,K,h=>by
  simp only[nR] at h;have hr:=ht.ev (.tmp b);simp only[evD,Act.eval] at hr;obtain⟨hs,h⟩:=h;rw[<- hh] at h;obtain⟨v,d,h1,h2,h3⟩:=PM hT hi hs hr h;have h1':((do loadVar ty (<- asAddr (a.tmps.getD b undef))):Sem Value).run P X.w=.ok v X.w:=by
   unfold vY at h;split at h
   .rename_i id off he;split at h
    .rename_i cells hc;rw[he] at hr;obtain⟨_,_,h5⟩:=hr;obtain⟨g,_,hv⟩:=h5 _ hc;rw[hv] at h1 ⊢;simpa[Instr.loadAt,Instr.sureAddr,asAddr] using h1
    .exact h.elim
   .rename_i id i j he;split at h
    .rename_i k es ro hc;rw[he] at hr;obtain⟨_,_,h5⟩:=hr;obtain⟨g,_,hv⟩:=h5 _ _ _ hc;rw[hv] at h1 ⊢;simpa[Instr.loadAt,Instr.sureAddr,asAddr] using h1
    .exact h.elim
   .rename_i cs he;rw[he] at hr;obtain⟨bl,off,hv,_⟩:=hr;rw[hv] at h1 ⊢;simpa[Instr.loadAt,Instr.sureAddr,asAddr] using h1
   .exact h.elim
  cases d<;>simp only at h3
  case c x =>
   obtain⟨es,vs,k1,k2,k3⟩:=pI hT hh hi ht rs h3;refine⟨_,v::vs,k1,⟨h2,k2⟩,?_⟩;rw[List.mapM_cons];simp only[zCy,Sem.run_bind] at h1' ⊢;simp only[h1',Result.andThen_ok,k3,Sem.run_pure]
  case agg xs =>
   obtain⟨es,vs,k1,k2,k3⟩:=pI hT hh hi ht rs h3;refine⟨_,v::vs,k1,⟨h2,k2⟩,?_⟩;rw[List.mapM_cons];simp only[zCy,Sem.run_bind] at h1' ⊢;simp only[h1',Result.andThen_ok,k3,Sem.run_pure]
theorem eD.toDV(h:eD X e v):bD X e.toDV v:=by cases e<;>exact h
theorem YR(hT:bM P T){K:List EV->Prop}(hh:X.h=s.h)(hi:HInv X)(ht:TInv X s a)(h:nR T s fn.results.toList K):
  ∃es v,K es/\bD X (KD es) v/\(results fn a.tmps).run P X.w=.ok v X.w:=by
 obtain⟨es,vs,h1,h2,h3⟩:=pI hT hh hi ht fn.results.toList h;refine⟨es,if h:vs.length=1 then vs[0] else .tuple vs.toArray,h1,?_,?_⟩
 .match es,vs,h2 with
  | [],[],_=>exact⟨[],rfl,True.intro⟩
  | [e],[v],h=>exact h.1.toDV
  | e::f::es,v::u::vs,h=>exact⟨v::u::vs,rfl,h⟩
 .rw[zCA];rw[Array.mapM_eq_mapM_toList];simp only[Sem.run_bind,Sem.run_map,h3,Result.andThen_ok,Sem.run_pure];rfl
theorem zE3(hi:HInv X)(hs:Step X X')(hw:X'.w=X.w)(hYw:Y.w=X'.w)(hYS:Y.S=X'.S){e':EV}(hr:eD X e v)(hp:zJa X.h e=some e')(hf:vS X X' (zQo e)):eD Y e' v:=by
 cases e<;>simp only[zJa] at hp
 case c x =>
  obtain⟨z,hz,rfl⟩:=Option.map_eq_some_iff.1 hp;exact PB hi hs hw hYw hYS hr hz hf
 case agg xs =>
  obtain⟨ys,hy,rfl⟩:=Option.map_eq_some_iff.1 hp;obtain⟨vs,h1,h2⟩:=hr;refine⟨vs,h1,bF.of_ps ?_⟩;rw[hYw,hYS];exact CP hi hs hw h2 hy hf
theorem FQ(hi:HInv X)(hs:Step X X')(hw:X'.w=X.w)(hYw:Y.w=X'.w)(hYS:Y.S=X'.S):∀{es es':List EV} {vs:List Value},cO X es vs->FP X.h es=some es'->vS X X' (zBE es)->cO Y es' vs
 | [],_,[],_,hp,_=>by simp only[FP,Option.some.injEq] at hp;subst hp;exact True.intro
 | d::ds,ds',v::vs,hr,hp,hf=>by
  simp only[FP] at hp;split at hp
  .rename_i x xs h1 h2;cases hp;exact⟨zE3 hi hs hw hYw hYS hr.1 h1 (hf.sub λid h=>by simp[zBE,h]),FQ hi hs hw hYw hYS hr.2 h2 (hf.sub λid h=>by simp[zBE,h])⟩
  .cases hp
 | [],_,_::_,h,_,_=>h.elim
 | _::_,_,[],h,_,_=>h.elim
theorem zGV(hi:HInv X)(hs:Step X X')(hw:X'.w=X.w)(hYw:Y.w=X'.w)(hYS:Y.S=X'.S){d':DV}(hr:bD X d v)(hp:zGU X.h d=some d')(hf:vS X X' (zNj d)):bD Y d' v:=by
 cases d
 case tup es =>
  obtain⟨z,hz,rfl⟩:=Option.map_eq_some_iff.1 hp;obtain⟨vs,h1,h2⟩:=hr;exact⟨vs,h1,FQ hi hs hw hYw hYS h2 hz hf⟩
 all_goals exact PQ hi hs hw hYw hYS hr hp hf
theorem zE5(hi:HInv X)(hs:Step X0 X)(hd:bD X d v)(h:Fin X0.h.length X.h d R):Ret X0 R v X.w:=by
 rcases h with h|⟨d',h1,h2,h3⟩|⟨id,len,k,es,rfl,h1,h2,h3,h4⟩
 .exact⟨d,X,rfl,hi,hs,hd,h⟩
 .obtain⟨X1,hw,hh,hG,hst,hi1,hfx⟩:=jD (zNj d) hi;rw[<- hh] at h2 h3;exact⟨d',X1.cut X0.h.length,hw,hi1.cut h2,(hs.trans hi hst).cut (Nat.le_refl _),zGV (Y:=X1.cut X0.h.length) hi hst hw rfl rfl hd h1 hfx,h3⟩
 ·
  have hid:=aK h2
  let g:=X.G id
  let Y:Ctx:=⟨X.w,X.S,λi=>if i=X0.h.length then X.G id else X.G i,X.h.take X0.h.length++[.arr k es false]⟩
  have hYlen:(X.h.take X0.h.length).length=X0.h.length:=by simp only[List.length_take];omega
  have hYat:∀{i:Nat} {db:DB},Y.h[i]?=some db->(i<X0.h.length/\X.h[i]?=some db)∨(i=X0.h.length/\db=.arr k es false):=by
   intro i db hh;rcases bX hh with⟨k1,k2⟩|⟨k1,k2⟩
   .rw[hYlen] at k1;rw[List.getElem?_take,if_pos k1] at k2;exact .inl ⟨k1,k2⟩
   .exact .inr ⟨by omega,k2⟩
  have hGlt:∀{i:Nat},i<X0.h.length->Y.G i=X.G i:=λhlt=>by
   show (if _ then _ else _)=_
   rw[if_neg (by omega)]
  have hGeq:Y.G X0.h.length=X.G id:=by show (if _ then _ else _)=_;rw[if_pos rfl]
  have hcut:=hi.cut h3;have hscut:=hs.cut (Nat.le_refl X0.h.length);have hstep:Step X0 Y:=by
   refine⟨hs.size,hs.os,hs.tape,hs.output,hs.kept,by show _<=(_++_:List DB).length;simp only[List.length_append,hYlen];omega,λi db hlt hh hl=>?_,hs.frame,λi db g' hh hl hf hg'=>?_,hs.upper⟩
   .rcases hYat hh with⟨k1,k2⟩|⟨k1,_⟩
    .obtain⟨db0,q1,q2,q3,q4⟩:=hs.ids i db hlt k2 hl;exact⟨db0,q1,q2,(hGlt k1).trans q3,q4⟩
    .omega
   .rcases hYat hh with⟨k1,k2⟩|⟨k1,k2⟩
    .rw[hGlt k1] at hg';exact hs.mine i db g' k2 hl hf hg'
    .subst k1;rw[hGeq] at hg';exact hs.mine id _ g' h2 rfl rfl hg'
  have hinv:HInv Y:=by
   refine⟨hi.slt,λi db hh=>?_,λi db g' hh hl hg'=>?_,λi d i' d' g1 g1' hh hl hf hh' hl' hg1 hg1' he=>?_⟩
   .rcases hYat hh with⟨k1,k2⟩|⟨k1,k2⟩
    .have hb:=hcut.blk i db (by simp only[Ctx.cut];rw[List.getElem?_take,if_pos k1];exact k2);have hcl:=FF h3 (show (X.h.take X0.h.length)[i]?=some db by rw[List.getElem?_take,if_pos k1];exact k2)
     cases db<;>simp only[eC] at hb ⊢
     case box cells =>
      obtain⟨g',arr,el,fz,q1,q2,q3,q4,q5⟩:=hb;refine⟨g',arr,el,fz,(hGlt k1).trans q1,q2,q3,q4,cU.mk λj c hj=>?_⟩;obtain⟨u,q6,q7⟩:=q5.at_ hj;refine⟨u,q6,?_⟩;have hcc:=FF (show cells.all (aJ X0.h.length)=true from hcl) hj
      have q8:=hi.blk i _ k2;simp only[eC] at q8;have hmono:∀{c:CV} {u:Value},aJ X0.h.length c=true->cA X c u->cA Y c u:=by
       intro c u hc hr;have hlenY:∀j,j<X0.h.length->j<Y.h.length:=λj hj=>by show _<(_++_:List DB).length;simp only[List.length_append,hYlen];omega
       have hget:∀j db,j<X0.h.length->Y.h[j]?=some db->X.h[j]?=some db:=λj db hj hh=>by
        rcases hYat hh with⟨_,k⟩|⟨k,_⟩
        .exact k
        .omega
       cases c<;>simp only[aJ,decide_eq_true_eq] at hc<;>simp only[cA] at hr ⊢
       case p=>exact hr
       case own id' off' len' =>
        refine⟨hlenY _ hc,hr.2.1,λk' es' ro' hh=>?_⟩;rw[hGlt hc];exact hr.2.2 k' es' ro' (hget _ _ hc hh)
       case ptr id' off' =>
        refine⟨hlenY _ hc,hr.2.1,λcs hh=>?_⟩;rw[hGlt hc];exact hr.2.2 cs (hget _ _ hc hh)
       case aptr id' i' j' =>
        refine⟨hlenY _ hc,hr.2.1,λk' es' ro' hh=>?_⟩;rw[hGlt hc];exact hr.2.2 k' es' ro' (hget _ _ hc hh)
       case bs id' n' =>
        refine⟨hlenY _ hc,hr.2.1,λcs hh=>?_⟩;rw[hGlt hc];exact hr.2.2 cs (hget _ _ hc hh)
       case mp id' =>
        refine⟨hlenY _ hc,hr.2.1,λes' hh=>?_⟩;rw[hGlt hc];exact hr.2.2 es' (hget _ _ hc hh)
       case eptr=>exact hr
       case full=>exact hr
       case clo f cap =>
        obtain ⟨vs,r1,r2⟩:=hr;refine⟨vs,r1,?_⟩;have:∀(cs:List KV) (vs:List Value),cs.all (iI X0.h.length)=true->fQ X cs vs->fQ Y cs vs:=by
         intro cs
         induction cs with
         | nil=>intro vs _ h;cases vs with
          | nil=>exact True.intro
          | cons _ _=>exact h.elim
         | cons c cs ih =>
          intro vs hc h;cases vs with
          | nil=>exact h.elim
          | cons v vs =>
           simp only[List.all_cons,Bool.and_eq_true] at hc;refine⟨?_,ih vs hc.2 h.2⟩;have h1:=h.1;cases c<;>simp only[sD] at h1 ⊢
           .exact h1
           .have hc1:=hc.1;simp only[iI,decide_eq_true_eq] at hc1;refine⟨hlenY _ hc1,h1.2.1,λcs' hh=>?_⟩;rw[hGlt hc1];exact h1.2.2 cs' (hget _ _ hc1 hh)
        exact this cap vs hc r2
      obtain⟨g2,arr2,el2,fz2,r1,r2,r3,r4,r5⟩:=q8;rw[show X.G i=some g' from q1] at r1
      cases r1;obtain⟨u2,r6,r7⟩:=r5.at_ hj;have:u2=u:=Option.some.inj (r6.symm.trans q6);subst this;exact hmono hcc r7
     case arr=>rw[hGlt k1];exact hb
     case mp=>rw[hGlt k1];exact hb
    .subst k1;subst k2;have hb:=hi.blk id _ h2;simp only[eC] at hb ⊢;rw[hGeq];exact hb
   .rcases hYat hh with⟨k1,k2⟩|⟨k1,k2⟩
    .rw[hGlt k1] at hg';exact hi.own i db g' k2 hl hg'
    .subst k1;subst k2;rw[hGeq] at hg';exact hi.own id _ g' h2 rfl hg'
   .rcases hYat hh with⟨k1,k2⟩|⟨k1,k2⟩<;>rcases hYat hh' with⟨k1',k2'⟩|⟨k1',k2'⟩
    .rw[hGlt k1] at hg1;rw[hGlt k1'] at hg1';exact hi.inj i d i' d' g1 g1' k2 hl hf k2' hl' hg1 hg1' he
    .subst k1';rw[hGlt k1] at hg1;rw[hGeq] at hg1';have:=hi.inj i d id _ g1 g1' k2 hl hf h2 rfl hg1 hg1' he;omega
    .subst k1;rw[hGeq] at hg1;rw[hGlt k1'] at hg1';have:=hi.inj id _ i' d' g1 g1' h2 rfl rfl k2' hl' hg1 hg1' he;omega
    .omega
  refine⟨.c (.own X0.h.length 0 len),Y,rfl,hinv,hstep,?_,h4⟩;obtain⟨_,q2,q3⟩:=hd;refine tI (x:=.own X0.h.length 0 len) ⟨by show _<(_++_:List DB).length;simp only[List.length_append,hYlen,List.length_cons];omega,q2,λk' es' ro' hh=>?_⟩
  rcases hYat hh with⟨k1,_⟩|⟨_,k2⟩
  .omega
  .cases k2;rw[hGeq];exact q3 _ _ _ h2
theorem eM (hT:bM P T) {f:FuncId} {c:Code} {args:List DV} {h:aD} (hf:P.funcs[f]?=some fn) (hb:fn.body=some c) (har:args.length<=fn.ntmps) (hn:(fn.name == "runtime.NumGoroutine")=false)
 (hs:∀X0:Ctx,X0.h=h->SWP P X0 c ⟨fn.ntmps,args.zipIdx.map (λp=>(p.2,p.1)),h⟩ (dpost T h.length fn.results.toList R)):aA P f args h R:=by
 intro X vals hh hi gd hr;refine .inl ⟨?_,calls_of_wp hf hb ?_⟩
 ·have hn':¬ fn.name = "runtime.NumGoroutine" := by simpa using hn
  simp[callFunc,hf,hn',hb]
 .have hlen:∀(ds:List DV) (vs:List Value),dI X ds vs->ds.length=vs.length:=by
   intro ds
   induction ds with
   | nil=>intro vs h;cases vs with
    | nil=>rfl
    | cons _ _=>exact h.elim
   | cons d ds ih=>intro vs h;cases vs with
    | nil=>exact h.elim
    | cons v vs=>simp[ih vs h.2]
  have hl:=hlen args vals hr;have hat:∀(ds:List DV) (vs:List Value) (i:Nat) (d:DV),dI X ds vs->ds[i]?=some d->∃v,vs[i]?=some v/\bD X d v:=by
   intro ds
   induction ds with
   | nil=>intro vs i d _ h;simp at h
   | cons c ds ih=>intro vs i d h hd;cases vs with
    | nil=>exact h.elim
    | cons v vs =>
     cases i with
     | zero=>simp only[List.getElem?_cons_zero,Option.some.injEq] at hd;subst hd;exact⟨v,rfl,h.1⟩
     | succ i=>simp only[List.getElem?_cons_succ] at hd ⊢;exact ih vs i d h.2 hd
  have hlook:∀(ds:List DV) (k i:Nat),look ((ds.zipIdx k).map λp=>(p.2,p.1)) i=if k<=i then (ds[i-k]?).getD .jk else .jk:=by
   intro ds
   induction ds with
   | nil=>intro k i;simp[look]
   | cons d ds ih =>
    intro k i;simp only[List.zipIdx_cons,List.map_cons,look];by_cases hik:i=k
    .subst hik;simp
    .rw [if_neg hik,ih];by_cases hki:k<=i
     .rw[if_pos hki,if_pos (by omega),show i-k=(i-(k+1))+1 by omega]
      rfl
     .rw[if_neg hki,if_neg (by omega)]
  have ht:TInv X ⟨fn.ntmps,args.zipIdx.map (λp=>(p.2,p.1)),h⟩ { tmps:=vals.toArray++Array.replicate (fn.ntmps-vals.toArray.size) undef,defers:=[] }:=by
   refine⟨by simp;omega,λi=>?_,rfl⟩
   simp only;rw[hlook args 0 i,if_pos (Nat.zero_le _),Nat.sub_zero,Array.getD_eq_getD_getElem?];rcases Nat.lt_or_ge i args.length with hlt|hge
   .have hd:args[i]?=some args[i]:=List.getElem?_eq_getElem hlt;obtain⟨v,h1,h2⟩:=hat args vals i _ hr hd;rw[Array.getElem?_append_left (by simp;omega)];simp only[List.getElem?_toArray,h1,hd,Option.getD_some];exact h2
   .rw[List.getElem?_eq_none hge];exact True.intro
  refine wp_mono (hs X hh gd X _ hh hi (Step.refl hi) ht) λe a w hp=>?_;obtain⟨s,X',h1,rfl,h3,h4,h5,h6⟩:=hp;have fin:nR T s fn.results.toList (λes=>Fin h.length s.h (KD es) R)->a.defers=[]/\∃v,(results fn a.tmps).run P X'.w=.ok v X'.w/\∃u,Ending.returned v=Ending.returned u/\Ret X R u X'.w:=by
   intro hd;obtain⟨es,v,k1,k2,k3⟩:=YR (P:=P) hT h3 h4 h6 hd;refine⟨h6.defs,v,k3,v,rfl,zE5 h4 h5 k2 ?_⟩;rw[hh,h3];exact k1
  cases e<;>simp only[dpost] at h1
  case normal=>exact fin h1
  case ret=>exact fin h1
end fin
variable {P:Program}{f:FuncId}{args args':List DV}{h:aD}{r:DV}{K:DV->aD->Prop}
theorem aA.use(hc:aA P f args' [] λd h'=>d=r/\h'=[])(hp:iF h args=some args')(hsh:∀n,r.sh n=r)
 (hk:K r (sN h (lZ args))):aA P f args h K :=
 (aA.frame h hp hc).mono λd h' ⟨d0,h0,⟨h1,h2⟩,h3,h4⟩=>by
  subst h1;subst h2;rw[hsh] at h3;simp only[List.map_nil,List.append_nil] at h4;rw[h3,h4];exact hk
theorem aA.useFlat(hc:aA P f args' [] λd h'=>d=r/\h'=[])(hp:iF h args=some args')(hfl:QH r=true)
 (hk:K r h):aA P f args h K :=
 (aA.flat h hp (λd h0 hd=>by rw[hd.1];exact hfl) hc).mono λd h' ⟨⟨h0,h1⟩,h2⟩=>by
  rw[h1.1,h2];exact hk
section
variable {P:Program}{T:Tab}{X0:Ctx}
end
section
variable {P:Program}{T:Tab}{X0:Ctx}
end
section
variable {P:Program}{T:Tab}{X0:Ctx}
end
section
variable {P:Program}{T:Tab}{X0:Ctx}
end
section
variable {P:Program}{T:Tab}{X0:Ctx}
end
section
variable {P:Program}{T:Tab}{X0:Ctx}
end
section
variable {P:Program}{T:Tab}{X0:Ctx}
end
section
variable {P:Program}{T:Tab}{X0:Ctx}
end
section
variable {P:Program}{T:Tab}{X0:Ctx}
end
end Go.Dm
end
section
namespace Go.Dm
open Go
section step
variable {P:Program}{T:Tab}{X0:Ctx}
end step
theorem aI(j:Nat)(d:DV)(t:Fr)(i:Nat):look ((j,d)::t) i=if i=j then d else look t i:=rfl
theorem zMx(t:Fr)(i:Nat):evD t (.tmp i)=look t i:=rfl
theorem zE4(t:Fr)(v:Value):evD t (.const v)=NY v:=rfl
theorem zBK(t:Fr)(g:Nat):evD t (.global g)=.c (.p (.o (.pointer (some ⟨g,0,none⟩)))):=rfl
theorem zJb(t:Fr)(f:FuncId):evD t (.func f)=.c (.clo f []):=rfl
theorem zLV{α:Type}(x:α)(l:List α):(x::l)[0]?=some x:=rfl
theorem zLU{α:Type}(x:α)(l:List α)(n:Nat):(x::l)[n+1]?=l[n]? := rfl
def mZ(id:Nat)(Q:Exit->DS->Prop):Exit->DS->Prop:=λe s'=>match e with
 | .exit id'=>if id'=id then Q .normal s' else Q (.exit id') s'
 | e=>Q e s'
def zPp{α:Type}(n0:Nat)(I:α->DS)(J:α->Prop)(μ:α->Nat)(x:α)(Q:Exit->DS->Prop):Exit->DS->Prop:=λe s'=>match e with
 | .normal=>∃y,J y/\μ y < μ x/\FE n0 s' (I y)
 | e=>Q e s'
section
variable {P:Program}{T:Tab}{X0:Ctx}{Q:Exit->DS->Prop}{s:DS}
end
section
variable {P:Program}{T:Tab}{X0:Ctx}{Q:Exit->DS->Prop}{s:DS}
end
section
variable {P:Program}{T:Tab}{X0:Ctx}{Q:Exit->DS->Prop}{s:DS}
end
section
variable {P:Program}{T:Tab}{X0:Ctx}{Q:Exit->DS->Prop}{s:DS}
end
section
variable {P:Program}{T:Tab}{X0:Ctx}{Q:Exit->DS->Prop}{s:DS}
end
section
variable {P:Program}{T:Tab}{X0:Ctx}{Q:Exit->DS->Prop}{s:DS}
end
section
variable {P:Program}{T:Tab}{X0:Ctx}{Q:Exit->DS->Prop}{s:DS}
end
section
variable {P:Program}{T:Tab}{X0:Ctx}{Q:Exit->DS->Prop}{s:DS}
end
section
variable {P:Program}{T:Tab}{X0:Ctx}{Q:Exit->DS->Prop}{s:DS}
end
section
variable {P:Program}{T:Tab}{X0:Ctx}{Q:Exit->DS->Prop}{s:DS}
end
section
variable {P:Program}{T:Tab}{X0:Ctx}{Q:Exit->DS->Prop}{s:DS}
end
section
variable {P:Program}{T:Tab}{X0:Ctx}{Q:Exit->DS->Prop}{s:DS}
end
section
variable {P:Program}{T:Tab}{X0:Ctx}{Q:Exit->DS->Prop}{s:DS}
end
section
variable {P:Program}{T:Tab}{X0:Ctx}{Q:Exit->DS->Prop}{s:DS}
end
section
variable {P:Program}{T:Tab}{X0:Ctx}{Q:Exit->DS->Prop}{s:DS}
end
section ways
variable {P:Program}{T:Tab}{X0:Ctx}{Q:Exit->DS->Prop}{s:DS}
end ways
end Go.Dm
end
section
namespace Go.Dm
open Go
section
variable {P:Program}{T:Tab}{X0:Ctx}
variable {ops:Array Oper}{X:Ctx}{K:DS->Prop}{V:Nat->DV}{j k n i:Nat}{chain:List Nat}{L:Array Bool}
theorem zCS(hT:bM P T){o:Oper}{s:DS}{a:Act}{Q:Exit->Act->World->Prop}{next:Act->World->Prop}(hh:X.h=s.h)(hi:HInv X)(gd:Gnd P X)(ht:TInv X s a)
 (h:jI P T ops [o] s K)(hn:∀d v X',K (s.put o.dst d X'.h)->HInv X'->Step X X'->bD X' d v->next (a.put o.dst v) X'.w):
  if Region.wanted o (yielded ops a.tmps) then o.wp P a X.w next Q else next (a.put o.dst undef) X.w:=by
 have go:dop P T o.op s.t s.h (λd h'=>K (s.put o.dst d h'))->o.wp P a X.w next Q:=by
  intro hd;rw[<- hh] at hd;exact AX hT hi gd ht.ev hd λd v X' h1 h2 h3 h4=>hn d v X' h4 h1 h2 h3
 have skip:K (s.put o.dst (.tup []) s.h)->next (a.put o.dst undef) X.w:=λhd=>hn (.tup []) undef X (by rw[hh];exact hd) hi (Step.refl hi) ⟨[],rfl,True.intro⟩
 simp only[jI] at h;split at h
 .rename_i hg;rw[if_pos (by simp[Region.wanted,hg])];exact go h
 .rename_i j want hg;have hy:∀d,((ops[j]?).bind (·.dst)).map (λi=>look s.t i)=some d->∃i,(ops[j]?).bind (·.dst)=some i/\bD X d (a.tmps.getD i undef):=by
   intro d hd;obtain⟨i,h1,h2⟩:=Option.map_eq_some_iff.1 hd;exact⟨i,h1,h2▸ht.rel i⟩
  split at h
  .rename_i v hd;obtain⟨i,h1,h3⟩:=hy _ hd;simp only[bD,cA,cZ] at h3;have hv:a.tmps[i]?=some (.bool v):=by
    rcases Nat.lt_or_ge i a.tmps.size with hlt'|hge
    .rw[Array.getElem?_eq_getElem hlt'];simp only[Array.getD,hlt',dif_pos] at h3
     congr 1
    .rw[Array.getD_eq_getD_getElem?,Array.getElem?_eq_none hge] at h3;cases h3
   have hyd:yielded ops a.tmps j=some v:=by
    unfold yielded;rw[h1];simp only[Option.bind_some,hv]
   by_cases hw:v=want
   .rw[if_pos (by simp[Region.wanted,hg,hyd,hw])];exact go (h.1 hw)
   .rw[if_neg (by simp[Region.wanted,hg,hyd,hw])];exact skip (h.2 hw)
  .rename_i hd;obtain⟨i,h1,vs,hv,hr⟩:=hy _ hd;have hvs:vs=[]:=by
    cases vs with
    | nil=>rfl
    | cons _ _=>exact hr.elim
   subst hvs;have hyd:yielded ops a.tmps j=none:=by
    unfold yielded;rw[h1];simp only[Option.bind_some];rw[Array.getD_eq_getD_getElem?] at hv;cases hx:a.tmps[i]? with
    | none=>rfl
    | some u=>rw[hx] at hv;simp only[Option.getD_some] at hv;rw[hv]
   rw[if_neg (by simp[Region.wanted,hg,hyd])];exact skip h
  .exact h.elim
def Ctx.draw(X:Ctx):Ctx:=⟨{ X.w with drawn:=X.w.drawn+1 },X.S,X.G,X.h⟩
theorem AZ(hi:HInv X):Step X X.draw where
 size:=Nat.le_refl _
 os:=rfl
 tape:=rfl
 output:=⟨rfl,Nat.le_succ _⟩
 kept:=λ_ hb=>⟨hb,rfl⟩
 len:=Nat.le_refl _
 ids:=λid db' _ h hl=>⟨db',h,cM.refl hl,rfl,(hi.blk id db' h).same hl⟩
 frame:=λ_ _ _=>rfl
 mine:=λid db g h hl hf hg=>.inr ⟨id,db,g,h,hl,hf,hg,rfl⟩
 upper:=λ_ h=>.inl h
theorem zIu(hi:HInv X):HInv X.draw :=
 ⟨λb hb=>hi.slt b hb,λid db h=>(hi.blk id db h).move (AZ hi) rfl (λ_ _=>rfl),λid db g h hl hg=>hi.own id db g h hl hg,
  λid db id' db' g g' h hl hf h' hl' hg hg' he=>hi.inj id db id' db' g g' h hl hf h' hl' hg hg' he⟩
def keep(S:List Nat):Fr->Fr
 | []=>[]
 | p::t=>if S.contains p.1 then p::keep S t else keep S t
theorem uO(S:List Nat)(j:Nat):∀t:Fr,look (keep S t) j=if S.contains j then look t j else .jk
 | []=>by simp[keep,look]
 | p::t=>by
  simp only[keep];by_cases hp:S.contains p.1=true
  .rw[if_pos hp];simp only[look];by_cases hj:j=p.1
   .subst hj;rw[if_pos rfl,if_pos rfl,if_pos hp]
   .rw[if_neg hj,if_neg hj];exact uO S j t
  .rw[if_neg hp,uO S j t];by_cases hj:j=p.1
   .subst hj;rw[if_neg hp,if_neg hp]
   .simp only[look];rw[if_neg hj]
def res(s:DS):Option Tmp->DV
 | some i=>look s.t i
 | none=>.tup []
def VW(t:Fr):Option Tmp->DV->Fr
 | some i,v=>(i,v)::t
 | none,_=>t
def One(P:Program)(T:Tab)(ops:Array Oper)(n:Nat)(o:Oper)(t:Fr)(h:aD)(v:DV)(h':aD):Prop :=
 jI P T ops [o] ⟨n,keep (o.looksAt ops) t,h⟩ λs'=>s'.h=h'/\res s' o.dst=v
def gW(ops:Array Oper)(i:Nat):Option Tmp:=(ops[i]?).bind (·.dst)
def qC(ops:Array Oper)(i:Nat):List Nat:=match ops[i]? with
 | some o=>(o.after.toList.filter (Region.binds .any)).map (·.on)
 | none=>[]
def nL(ops:Array Oper):Nat->Nat->Nat->Bool
 | 0,_,_=>false
 | f+1,i,k=>(qC ops i).any λm=>m==k || nL ops f m k
def zO4(ops:Array Oper)(chain:List Nat)(i:Nat):Nat:=(chain.filter (nL ops 9 i)).length
def yH(P:Program)(T:Tab)(ops:Array Oper)(n:Nat)(chain:List Nat)(K:DS->Prop):List Nat->Fr->List aD->Prop
 | [],t,hs=>∀h old,hs=h::old->K ⟨n,t,h⟩
 | i::rest,t,hs=>∃o h old,ops[i]?=some o/\hs=h::old /\
   if chain.contains i then ∃v h',One P T ops n o t h v h'/\yH P T ops n chain K rest (VW t o.dst v) (h' :: hs)
   else ∃v,One P T ops n o t h v h/\(∀h0∈old.take (old.length-zO4 ops chain i),One P T ops n o t h0 v h0)/\yH P T ops n chain K rest (VW t o.dst v) hs
def cW(ops:Array Oper)(V:Nat->DV):Fr->List Nat->Fr
 | t,[]=>t
 | t,i::l=>cW ops V (VW t (gW ops i) (V i)) l
theorem nW{V':Nat->DV}:∀(l:List Nat) (t:Fr),(∀i∈l,V i=V' i)->cW ops V t l=cW ops V' t l
 | [],_,_=>rfl
 | i::l,t,h=>by
  simp only[cW];rw[h i List.mem_cons_self];exact nW l _ λk hk=>h k (List.mem_cons_of_mem _ hk)
section
variable {P:Program}{T:Tab}{X0:Ctx}
end
theorem lP: ∀(l:List Nat) (t:Fr),(∀k∈l,gW ops k≠some j)->look (cW ops V t l) j=look t j
 | [],_,_=>rfl
 | i::l,t,h=>by
  simp only[cW];rw[lP l _ λk hk=>h k (List.mem_cons_of_mem _ hk)];have:=h i List.mem_cons_self;cases hd:gW ops i with
  | none=>rfl
  | some d =>
   simp only[VW,look];rw[if_neg];rintro rfl;exact this hd
theorem sM(hd:gW ops k=some j):∀(l:List Nat) (t:Fr),k∈l->(∀k'∈l,gW ops k'=some j->k'=k)->look (cW ops V t l) j=V k
 | [],_,h,_=>by cases h
 | i::l,t,h,hu=>by
  simp only[cW];by_cases hk:k∈l
  .exact sM hd l _ hk λk' hk'=>hu k' (List.mem_cons_of_mem _ hk')
  .have hki:k=i:=by rcases List.mem_cons.1 h with h|h;exact h;exact absurd h hk
   subst hki;rw[lP l _ λk' hk' hd'=>hk (hu k' (List.mem_cons_of_mem _ hk') hd'▸hk'),hd];simp only[VW,look];rw[if_pos trivial]
def cnt(chain l:List Nat):Nat:=(l.filter chain.contains).length
def Good(P:Program)(T:Tab)(ops:Array Oper)(n:Nat)(chain:List Nat)(V:Nat->DV)(H:Nat->aD)(t:Fr)(c i:Nat):Prop :=
 ∃o,ops[i]?=some o/\if chain.contains i then One P T ops n o t (H c) (V i) (H (c+1)) else ∀s,zO4 ops chain i<=s->s<=c->One P T ops n o t (H s) (V i) (H s)
theorem BA: ∀(rest:List Nat) (t:Fr) (hs:List aD) (c:Nat),hs.length=c+1->rest.Nodup->yH P T ops n chain K rest t hs ->
  ∃ (V:Nat->DV) (H:Nat->aD),(∀k,k<=c->some (H k)=hs[c-k]?)/\(∀pre i post,rest=pre++i::post->Good P T ops n chain V H (cW ops V t pre) (c+cnt chain pre) i) /\
   K ⟨n,cW ops V t rest,H (c+cnt chain rest)⟩
 | [],t,hs,c,hc,_,h=>by
  match hs,hc with
  | h0::old,hc =>
   simp only[List.length_cons,Nat.add_right_cancel_iff] at hc;refine⟨λ_=>.jk,λk=>((h0::old)[c-k]?).getD [],λk hk=>?_,λpre i post e=>by simp at e,?_⟩
   .have:c-k<(h0::old).length:=by simp;omega
    simp only[List.getElem?_eq_getElem this,Option.getD_some]
   .have:=h h0 old rfl;simp only[cW,cnt,List.filter_nil,List.length_nil,Nat.add_zero,Nat.sub_self,List.getElem?_cons_zero,Option.getD_some];exact this
 | i::rest,t,hs,c,hc,hnd,h=>by
  obtain⟨o,h0,old,ho,rfl,h⟩:=h;have hin:i ∉ rest:=(List.nodup_cons.1 hnd).1;have hnd':=(List.nodup_cons.1 hnd).2;have hd:gW ops i=o.dst:=by simp[gW,ho]
  have hold:old.length=c:=by simpa using hc
  by_cases hch:chain.contains i=true
  .rw [if_pos hch] at h;obtain⟨v,h',h1,h2⟩:=h;obtain⟨V,H,hH,hG,hK⟩:=BA rest _ _ (c+1) (by simp[hold]) hnd' h2;have hV:∀l:List Nat,(∀k∈l,k∈rest)->∀t,cW ops (λk=>if k=i then v else V k) t l=cW ops V t l:=λl hl t=>nW l t λk hk=>by
    rw[if_neg];rintro rfl;exact hin (hl _ hk)
   have hcn:∀l,c+cnt chain (i::l)=c+1+cnt chain l:=λl=>by simp only[cnt,List.filter_cons,hch,if_true,List.length_cons];omega
   refine⟨λk=>if k=i then v else V k,H,λk hk=>?_,λpre i' post e=>?_,?_⟩
   .have:=hH k (by omega);rw[this,show c+1-k=(c-k)+1 by omega,List.getElem?_cons_succ]
   .cases pre with
    | nil =>
     simp only[List.nil_append,List.cons.injEq] at e;obtain⟨rfl,_⟩:=e;refine⟨o,ho,?_⟩;rw[if_pos hch];simp only[cW,cnt,List.filter_nil,List.length_nil,Nat.add_zero,if_true];have e1:=hH c (by omega);have e2:=hH (c+1) (by omega);rw[show c+1-c=0+1 by omega,List.getElem?_cons_succ,List.getElem?_cons_zero] at e1
     rw[Nat.sub_self,List.getElem?_cons_zero] at e2;cases e1;cases e2;exact h1
    | cons x pre =>
     simp only[List.cons_append,List.cons.injEq] at e;obtain⟨rfl,e⟩:=e;have hmem:∀k∈pre,k∈rest:=λk hk=>by rw[e];exact List.mem_append_left _ hk
     have hi':i'∈rest:=by rw[e];exact List.mem_append_right _ List.mem_cons_self
     have:=hG pre i' post e;simp only[cW,if_true,hd];rw[hV pre hmem,hcn];simp only[Good] at this ⊢;rw[if_neg (show ¬ i'=i from λhe=>hin (he▸hi'))]
     exact this
   .simp only[cW,if_true,hd];rw[hV rest (λ_ h=>h),hcn];exact hK
  .rw [if_neg hch] at h;obtain⟨v,h1,h3,h2⟩:=h;obtain⟨V,H,hH,hG,hK⟩:=BA rest _ _ c hc hnd' h2;have hV:∀l:List Nat,(∀k∈l,k∈rest)->∀t,cW ops (λk=>if k=i then v else V k) t l=cW ops V t l:=λl hl t=>nW l t λk hk=>by
    rw[if_neg];rintro rfl;exact hin (hl _ hk)
   have hcn:∀l,c+cnt chain (i::l)=c+cnt chain l:=λl=>by simp only[cnt,List.filter_cons,hch];simp
   refine⟨λk=>if k=i then v else V k,H,hH,λpre i' post e=>?_,?_⟩
   .cases pre with
    | nil =>
     simp only[List.nil_append,List.cons.injEq] at e;obtain⟨rfl,_⟩:=e;refine⟨o,ho,?_⟩;rw[if_neg hch];intro s hs1 hs2;simp only[cW,cnt,List.filter_nil,List.length_nil,Nat.add_zero,if_true] at hs2 ⊢;have e1:=hH s hs2;rcases Nat.lt_or_ge s c with hlt|hge
     .rw[show c-s=(c-s-1)+1 by omega,List.getElem?_cons_succ] at e1
      refine h3 _ (List.mem_iff_getElem?.2 ⟨c-s-1,?_⟩);rw[List.getElem?_take,if_pos (by omega),e1]
     .have:s=c:=by omega
      subst this;rw[Nat.sub_self,List.getElem?_cons_zero] at e1;cases e1;exact h1
    | cons x pre =>
     simp only[List.cons_append,List.cons.injEq] at e;obtain⟨rfl,e⟩:=e;have hmem:∀k∈pre,k∈rest:=λk hk=>by rw[e];exact List.mem_append_left _ hk
     have hi':i'∈rest:=by rw[e];exact List.mem_append_right _ List.mem_cons_self
     have:=hG pre i' post e;simp only[cW,if_true,hd];rw[hV pre hmem,hcn];simp only[Good] at this ⊢;rw[if_neg (show ¬ i'=i from λhe=>hin (he▸hi'))]
     exact this
   .simp only[cW,if_true,hd];rw[hV rest (λ_ h=>h),hcn];exact hK
def JV(ops:Array Oper):List Nat->Bool
 | []=>true
 | e::es=>es.all (λe'=>nL ops 9 e' e) && JV ops es
def zLT(ops:Array Oper)(chain:List Nat)(i:Nat)(pre post:List Nat):Bool :=
 (qC ops i).all pre.contains &&
 (post.all λe=>!chain.contains e || nL ops 9 e i) &&
 (match ops[i]? with
  | some o=>(o.looksAt ops).all λj=>(pre.all λk=>!(gW ops k==some j) || nL ops 9 i k) && (post.all λk=>!(gW ops k==some j) || nL ops 9 k i)
  | none=>false) &&
 (match gW ops i with
  | some j=>post.all λk=>!(gW ops k==some j)
  | none=>true) &&
 !post.contains i
def zHZ(ops:Array Oper)(chain:List Nat):List Nat->List Nat->Bool
 | _,[]=>true
 | pre,i::post=>zLT ops chain i pre post && zHZ ops chain (pre++[i]) post
def zAO(ops:Array Oper)(n:Nat)(chain order:List Nat):Bool :=
 decide (order.length<=ops.size) && ((List.range ops.size).all λi=>order.contains i && match gW ops i with|some x=>decide (x<n)|none=>true) && (order.filter chain.contains==chain) && JV ops chain && zHZ ops chain [] order
theorem ZT: ∀(l pre0:List Nat),zHZ ops chain pre0 l=true->∀pre i post,l=pre++i::post->zLT ops chain i (pre0++pre) post=true
 | [],_,_,pre,i,post,e=>by simp at e
 | x::l,pre0,h,pre,i,post,e=>by
  simp only[zHZ,Bool.and_eq_true] at h;cases pre with
  | nil =>
   simp only[List.nil_append,List.cons.injEq] at e;obtain⟨rfl,rfl⟩:=e;simpa using h.1
  | cons y pre =>
   simp only[List.cons_append,List.cons.injEq] at e;obtain⟨rfl,e⟩:=e;have:=ZT l (pre0++[x]) h.2 pre i post e;simpa using this
def zDf(ops:Array Oper)(L:Array Bool):Prop:=∀i,L.getD i false=true->∀k∈qC ops i,L.getD k false=true
theorem NB(hc:zDf ops L):∀(f i k:Nat),(∀m∈qC ops i,L.getD m false=true)->nL ops f i k=true->L.getD k false=true
 | 0,_,_,_,h=>by cases h
 | f+1,i,k,hp,h=>by
  simp only[nL,List.any_eq_true,Bool.or_eq_true,beq_iff_eq] at h;obtain⟨m,hm,h⟩:=h;rcases h with rfl|h
  .exact hp _ hm
  .exact NB hc f m k (hc m (hp m hm)) h
theorem RL: k∈qC ops i↔∃o,ops[i]?=some o/\∃e∈o.after,Region.binds .any e=true/\e.on=k:=by
 unfold qC;cases ho:ops[i]? with
 | none=>simp
 | some o =>
  simp only[List.mem_map,List.mem_filter,Array.mem_toList_iff,Option.some.injEq,exists_eq_left'];constructor
  .rintro⟨e,⟨h1,h2⟩,h3⟩;exact⟨e,h1,h2,h3⟩
  .rintro⟨e,h1,h2,h3⟩;exact⟨e,⟨h1,h2⟩,h3⟩
theorem LX(h:i∈Region.ready .any ops L):L.getD i true=false/\(∃o,ops[i]?=some o)/\∀k∈qC ops i,L.getD k false=true:=by
 obtain⟨h1,o,h2,h3⟩:=mem_ready.1 h;refine⟨h1,⟨o,h2⟩,λk hk=>?_⟩;obtain⟨o',ho',e,he,hb,rfl⟩:=RL.1 hk;rw[h2] at ho';cases ho';exact h3 e he hb
theorem zKl(h1:L.getD i true=false)(h2:i<ops.size)(h3:∀k∈qC ops i,L.getD k false=true):i∈Region.ready .any ops L :=
 mem_ready.2 ⟨h1,ops[i],Array.getElem?_eq_getElem h2,λe he hb=>h3 _ (RL.2 ⟨_,Array.getElem?_eq_getElem h2,e,he,hb,rfl⟩)⟩
structure RInv (P:Program) (X0:Ctx) (ops:Array Oper) (n:Nat) (chain:List Nat) (V:Nat->DV) (H:Nat->aD) (t0:Fr) (L:Array Bool) (X:Ctx) (a:Act):Prop where
 size:L.size=ops.size
 closed:zDf ops L
 hh:X.h=H (chain.filter λe=>L.getD e false).length
 hi:HInv X
 hs:Step X0 X
 sz:a.tmps.size=n
 defs:a.defers=[]
 relA:∀k j,L.getD k false=true->gW ops k=some j->bD X (V k) (a.tmps.getD j undef)
 relB:∀j,(∀k,L.getD k false=true->gW ops k≠some j)->bD X (look t0 j) (a.tmps.getD j undef)
theorem nY(h:i<L.size)(d:Bool):(L.setIfInBounds i true).getD i d=true:=by
 simp[h]
theorem rY(h:(L.setIfInBounds i true).getD k false=true):k=i∨L.getD k false=true:=by
 by_cases hk:i=k
 .exact .inl hk.symm
 .rw[getD_set_ne false hk] at h;exact .inr h
theorem uG{α:Type}(p q:α->Bool):∀(l:List α),(∀x∈l,p x=true->q x=true)->(l.filter p).length<=(l.filter q).length
 | [],_=>Nat.le_refl _
 | x::l,h=>by
  have ih:=uG p q l λy hy=>h y (List.mem_cons_of_mem _ hy);simp only[List.filter_cons];by_cases hp:p x=true
  .rw[if_pos hp,if_pos (h x List.mem_cons_self hp)];simp only[List.length_cons];omega
  .rw[if_neg hp];split<;>(try simp only[List.length_cons])<;>omega
theorem KI{α:Type}(p q:α->Bool)(l:List α)(h:∀x∈l,p x=q x):(l.filter p).length=(l.filter q).length:=by
 rw[List.filter_congr h]
structure PlanAt (ops:Array Oper) (n:Nat) (chain order:List Nat):Prop where
 all:∀i o,ops[i]?=some o->i∈order
 dlt:∀i x,gW ops i=some x->x<n
 chn:order.filter chain.contains=chain
 prs:∀A e B,chain=A++e::B->∀k∈A,nL ops 9 e k=true
 len:order.length<=ops.size
 at_:∀pre i post,order=pre++i::post->zLT ops chain i pre post=true
theorem FK: ∀(l:List Nat),JV ops l=true->∀A e B,l=A++e::B->∀k∈A,nL ops 9 e k=true
 | [],_,A,e,B,h,_,_=>by simp at h
 | x::l,hc,A,e,B,h,k,hk=>by
  simp only[JV,Bool.and_eq_true,List.all_eq_true] at hc;cases A with
  | nil=>cases hk
  | cons y A =>
   simp only[List.cons_append,List.cons.injEq] at h;obtain⟨rfl,rfl⟩:=h;rcases List.mem_cons.1 hk with rfl|hk
   .exact hc.1 e (by simp)
   .exact FK _ hc.2 A e B rfl k hk
theorem zGB{order:List Nat}(h:zAO ops n chain order=true):PlanAt ops n chain order:=by
 simp only[zAO,Bool.and_eq_true,List.all_eq_true,List.mem_range,beq_iff_eq,decide_eq_true_eq] at h;obtain⟨⟨⟨⟨h0,h1⟩,h2⟩,h3⟩,h4⟩:=h;refine⟨λi o hi=>?_,λi x hx=>?_,h2,FK _ h3,h0,λpre i post e=>by simpa using ZT order [] h4 pre i post e⟩
 .have:=(h1 i (Array.getElem?_eq_some_iff.1 hi).1).1;simpa using this
 .have hi:i<ops.size:=by
   rcases Nat.lt_or_ge i ops.size with h|h
   .exact h
   .simp[gW,Array.getElem?_eq_none h] at hx
  have:=(h1 i hi).2;rw[hx] at this;simpa using this
section plan
variable {ops:Array Oper}{n:Nat}{chain order:List Nat}
variable {j:Nat}{a:Act}{o:Option Tmp}{v:Value}{V:Nat->DV}{H:Nat->aD}{t0:Fr}
theorem PlanAt.uniq(hp:PlanAt ops n chain order){k k':Nat}{j:Tmp}(hk:k∈order)(hk':k'∈order)(h:gW ops k=some j)(h':gW ops k'=some j):k'=k:=by
 obtain ⟨pre,post,e⟩:=List.append_of_mem hk;rw[e] at hk';have key:∀x y p q,order=p++x::q->gW ops x=some j->y∈q->gW ops y=some j->False:=by
  intro x y p q e hx hy hy';have:=hp.at_ p x q e;simp only[zLT,Bool.and_eq_true,hx,List.all_eq_true,Bool.not_eq_true',beq_eq_false_iff_ne] at this;exact this.1.2 y hy hy'
 rcases List.mem_append.1 hk' with hk'|hk'
 .obtain⟨p2,q2,e2⟩:=List.append_of_mem hk';exact(key k' k p2 (q2++k::post) (by rw[e,e2];simp) h' (by simp) h).elim
 .rcases List.mem_cons.1 hk' with rfl|hk'
  .rfl
  .exact(key k k' pre post e h hk' h').elim
theorem PlanAt.nodup(hp:PlanAt ops n chain order):order.Nodup:=by
 suffices h:∀(l pre:List Nat),order=pre++l->l.Nodup from h order [] rfl
 intro l
 induction l with
 | nil=>intro _ _;exact List.nodup_nil
 | cons i l ih =>
  intro pre e;refine List.nodup_cons.2 ⟨λhi=>?_,ih (pre++[i]) (by simpa using e)⟩;have:=hp.at_ pre i l e;simp only[zLT,Bool.and_eq_true,Bool.not_eq_true'] at this;have h2:=this.2;simp at h2;exact h2 hi
theorem zGE(h:o≠some j):(a.put o v).tmps.getD j undef=a.tmps.getD j undef:=by
 cases o with
 | none=>rfl
 | some i =>
  have hij:i≠j:=λe=>h (by rw[e]);simp only[Act.put];rw[Array.getD_eq_getD_getElem?,Array.getElem?_setIfInBounds_ne hij,<- Array.getD_eq_getD_getElem?]
theorem zKc(h:j<a.tmps.size):(a.put (some j) v).tmps.getD j undef=v:=by
 simp only[Act.put];rw[Array.getD_eq_getD_getElem?,Array.getElem?_setIfInBounds_self_of_lt h];rfl
theorem zKd: (a.put o v).tmps.size=a.tmps.size:=by cases o<;>simp[Act.put]
theorem zKb: (a.put o v).defers=a.defers:=by cases o<;>rfl
theorem zBB(hT:bM P T)(gd:Gnd P X0)(hp:PlanAt ops n chain order)(hG:∀pre i post,order=pre++i::post->Good P T ops n chain V H (cW ops V t0 pre) (cnt chain pre) i)
 {L:Array Bool}{X:Ctx}{Q:Exit->Act->World->Prop}(hR:RInv P X0 ops n chain V H t0 L X a){i:Nat}(hi:i∈Region.ready .any ops L){next:Act->World->Prop}
 (hn:∀X' a',RInv P X0 ops n chain V H t0 (L.setIfInBounds i true) X' a'->next a' X'.w):wpOp P ops Q i next a X.w:=by
 obtain⟨hiL,⟨o,ho⟩,hpr⟩:=LX hi;have hiL':L.getD i false=false:=getD_both hiL;have hilt:i<L.size:=by rw[hR.size];exact(Array.getElem?_eq_some_iff.1 ho).1
 obtain⟨pre,post,e⟩:=List.append_of_mem (hp.all i o ho);have hat:=hp.at_ pre i post e;simp only[zLT,ho,Bool.and_eq_true,List.all_eq_true,Bool.or_eq_true,Bool.not_eq_true'] at hat;obtain⟨⟨⟨⟨_,hlater⟩,hlook⟩,_⟩,hnp⟩:=hat;have hdst:gW ops i=o.dst:=by simp[gW,ho]
 have hinpost:i ∉ post:=by simpa using hnp
 have waiting:∀k,L.getD k false=true->nL ops 9 k i=false:=λk hk=>by
  cases hw:nL ops 9 k i with
  | false=>rfl
  | true =>
   have:=NB hR.closed 9 k i (hR.closed k hk) hw;rw[hiL'] at this;cases this
 have waited:∀k,nL ops 9 i k=true->L.getD k false=true:=λk hk=>NB hR.closed 9 i k hpr hk;have hch:chain=pre.filter chain.contains++((i::post).filter chain.contains):=by
  conv=>lhs;rw[<- hp.chn,e,List.filter_append]
 have hpostL:∀k∈post.filter chain.contains,L.getD k false=false:=λk hk=>by
  obtain⟨h1,h2⟩:=List.mem_filter.1 hk;cases hl:L.getD k false with
  | false=>rfl
  | true =>
   rcases hlater k h1 with h|h
   .rw[h2] at h;cases h
   .rw[waiting k hl] at h;cases h
 obtain ⟨o',ho',good⟩:=hG pre i post e;rw[ho] at ho';cases ho';have tin:∀h,X.h=h->TInv X ⟨n,keep (o.looksAt ops) (cW ops V t0 pre),h⟩ a:=by
  intro h _;refine⟨hR.sz,λj=>?_,hR.defs⟩;simp only[uO];split
  .rename_i hj;have hj':j∈o.looksAt ops:=by simpa using hj
   obtain⟨l1,l2⟩:=hlook j hj';by_cases hk:∃k∈pre,gW ops k=some j
   .obtain ⟨k,hkp,hkd⟩:=hk;have hkL:L.getD k false=true:=by
     rcases l1 k hkp with h|h
     .rw[hkd] at h;simp at h
     .exact waited k h
    rw[sM hkd pre t0 hkp λk' hk' hd'=>hp.uniq (e▸List.mem_append_left _ hkp) (e▸List.mem_append_left _ hk') hkd hd'];exact hR.relA k j hkL hkd
   .rw [lP pre t0 λk hkp hkd=>hk ⟨k,hkp,hkd⟩];refine hR.relB j λk hkL hkd=>?_;have hko:k∈order:=by
     unfold gW at hkd;cases hok:ops[k]? with
     | none=>rw[hok] at hkd;cases hkd
     | some ok=>exact hp.all k ok hok
    rw[e] at hko;rcases List.mem_append.1 hko with h|h
    .exact hk ⟨k,h,hkd⟩
    .rcases List.mem_cons.1 h with rfl|h
     .rw[hiL'] at hkL;cases hkL
     .rcases l2 k h with h'|h'
      .rw[hkd] at h';simp at h'
      .rw[waiting k hkL] at h';cases h'
  .exact True.intro
 have fin:∀h',One P T ops n o (cW ops V t0 pre) X.h (V i) h'->h'=H (chain.filter λk=>(L.setIfInBounds i true).getD k false).length->wpOp P ops Q i next a X.w:=by
  intro h' hone hh';have:=zCS (Q:=Q) (next:=next) hT (s:=⟨n,keep (o.looksAt ops) (cW ops V t0 pre),X.h⟩) rfl hR.hi (gd.step hR.hs) (tin _ rfl) hone ?_
  .unfold wpOp;simp only[ho];split
   .rename_i hw;rw[if_pos hw] at this;exact .inl this
   .rename_i hw;rw[if_neg hw] at this;exact this
  .intro d v X' hk hi' hs' hr;obtain⟨k1,k2⟩:=hk;have k1':X'.h=h':=by rw[<- k1];unfold DS.put;split<;>(try split)<;>rfl
   refine hn X' _ ⟨by simp[hR.size],λx hx k hk=>?_,by rw[k1',hh'],hi',hR.hs.trans hR.hi hs',by rw[zKd];exact hR.sz,by rw[zKb];exact hR.defs,λk j hk hkd=>?_,λj hj=>?_⟩
   .rcases rY hx with rfl|hx
    .exact getD_set_true (hpr k hk)
    .exact getD_set_true (hR.closed x hx k hk)
   .rcases rY hk with rfl|hk
    .rw[hdst] at hkd;have hjn:j<n:=hp.dlt k j (by rw[hdst];exact hkd);simp only[hkd,DS.put,if_pos hjn,res,look,if_true] at k2;rw[hkd,zKc (by rw[hR.sz];exact hjn),<- k2];exact hr
    .rw [zGE]
     .exact(hR.relA k j hk hkd).step hs'
     .intro hd;have:k=i:=hp.uniq (hp.all i o ho) (by
       unfold gW at hkd;cases hok:ops[k]? with
       | none=>rw[hok] at hkd;cases hkd
       | some ok=>exact hp.all k ok hok) (hdst.trans hd) hkd
      rw[this,hiL'] at hk;cases hk
   .rw[zGE]
    .exact(hR.relB j λk hk=>hj k (getD_set_true hk)).step hs'
    .rw[<- hdst];exact hj i (nY hilt false)
 have hAL:((pre.filter chain.contains).filter λk=>L.getD k false).length=(chain.filter λk=>L.getD k false).length:=by
  conv=>rhs;rw[hch]
  rw [List.filter_append,List.length_append];have:((i::post).filter chain.contains).filter (λk=>L.getD k false)=[]:=by
   rw[List.filter_eq_nil_iff];intro k hk;obtain⟨h1,h2⟩:=List.mem_filter.1 hk;rcases List.mem_cons.1 h1 with rfl|h1
   .rw[hiL'];simp
   .rw[hpostL k (List.mem_filter.2 ⟨h1,h2⟩)];simp
  rw[this];rfl
 by_cases hc:chain.contains i=true
 .rw [if_pos hc] at good;have hch':chain=pre.filter chain.contains++i::post.filter chain.contains:=by
   conv=>lhs;rw[hch,List.filter_cons,if_pos hc]
  have hA:∀k∈pre.filter chain.contains,L.getD k false=true:=λk hk=>waited k (hp.prs _ _ _ hch' k hk);have hcn:cnt chain pre=(chain.filter λk=>L.getD k false).length:=by
   rw[<- hAL,List.filter_eq_self.2 hA];rfl
  rw[hcn,<- hR.hh] at good;refine fin _ good ?_
  congr 1
  rw[<- hcn]
  conv=>rhs;rw[hch',List.filter_append,List.filter_cons,if_pos (nY hilt false)]
  have h1:(pre.filter chain.contains).filter (λk=>(L.setIfInBounds i true).getD k false)=pre.filter chain.contains:=List.filter_eq_self.2 λk hk=>getD_set_true (hA k hk);have h2:(post.filter chain.contains).filter (λk=>(L.setIfInBounds i true).getD k false)=[]:=by
   rw[List.filter_eq_nil_iff];intro k hk;have hki:i≠k:=λe=>hinpost (e▸(List.mem_filter.1 hk).1);rw[getD_set_ne false hki,hpostL k hk];simp
  rw[h1,h2];simp[cnt]
 .rw[if_neg hc] at good;have hone:=good (chain.filter λk=>L.getD k false).length (uG _ _ _ λk _ hk=>waited k hk) (by rw[<- hAL];exact List.length_filter_le _ _);rw[<- hR.hh] at hone;refine fin _ hone ?_;rw[hR.hh]
  congr 1
  refine KI _ _ _ λk hk=>?_;have hki:i≠k:=by rintro rfl;exact hc (by simpa using hk)
  rw[getD_set_ne false hki]
theorem zEh(hT:bM P T)(gd:Gnd P X0)(hp:PlanAt ops n chain order)(hG:∀pre i post,order=pre++i::post->Good P T ops n chain V H (cW ops V t0 pre) (cnt chain pre) i)
 {Q:Exit->DS->Prop}(hK:Q .normal ⟨n,cW ops V t0 order,H (cnt chain order)⟩):∀(fuel:Nat) (L:Array Bool) (X:Ctx) (a:Act),RInv P X0 ops n chain V H t0 L X a ->
   (order.filter λk=>!L.getD k true).length<=fuel->wpAny P .any ops (zHR X0 Q) fuel L a X.w:=by
 have done:∀(L:Array Bool) (X:Ctx) (a:Act),RInv P X0 ops n chain V H t0 L X a->Region.ready .any ops L=[]->zHR X0 Q .normal a X.w:=by
  intro L X a hR hr;have hall:∀(post pre:List Nat),order=pre++post->(∀k∈pre,L.getD k false=true)->∀k∈order,L.getD k false=true:=by
   intro post
   induction post with
   | nil=>intro pre e h k hk;rw[e,List.append_nil] at hk;exact h k hk
   | cons i post ih =>
    intro pre e h;refine ih (pre++[i]) (by simpa using e) λk hk=>?_;rcases List.mem_append.1 hk with hk|hk
    .exact h k hk
    .rw [List.mem_singleton] at hk;subst hk;have hat:=hp.at_ pre k post e;simp only[zLT,Bool.and_eq_true,List.all_eq_true] at hat;cases hl:L.getD k false with
     | true=>rfl
     | false =>
      have hk:k<ops.size:=by
       have:=hat.1.1.2;cases hok:ops[k]? with
       | none=>rw[hok] at this;cases this
       | some ok=>exact(Array.getElem?_eq_some_iff.1 hok).1
      have:k∈Region.ready .any ops L:=zKl (getD_in (by rw[hR.size];exact hk) hl) hk λm hm=>h m (by simpa using hat.1.1.1.1 m hm);rw[hr] at this;cases this
  have hL:=hall order [] rfl (λk hk=>by cases hk)
  refine⟨_,X,hK,rfl,?_,hR.hi,hR.hs,hR.sz,λj=>?_,hR.defs⟩
  .rw[hR.hh];simp only[cnt,hp.chn];rw[List.filter_eq_self.2];intro k hk;rw[<- hp.chn] at hk;exact hL k (List.mem_filter.1 hk).1
  .by_cases hk:∃k∈order,gW ops k=some j
   .obtain⟨k,hkp,hkd⟩:=hk;simp only;rw[sM hkd order t0 hkp λk' hk' hd'=>hp.uniq hkp hk' hkd hd'];exact hR.relA k j (hL k hkp) hkd
   .simp only;rw[lP order t0 λk hkp hkd=>hk ⟨k,hkp,hkd⟩];refine hR.relB j λk _ hkd=>hk ⟨k,?_,hkd⟩;unfold gW at hkd;cases hok:ops[k]? with
    | none=>rw[hok] at hkd;cases hkd
    | some ok=>exact hp.all k ok hok
 have mem_count:∀(L:Array Bool) i,i∈Region.ready .any ops L->i∈order.filter λk=>!L.getD k true:=λL i hi=>by
  obtain⟨h1,⟨o,h2⟩,_⟩:=LX hi;exact List.mem_filter.2 ⟨hp.all i o h2,by rw[h1];rfl⟩
 intro fuel
 induction fuel with
 | zero =>
  intro L X a hR hc;have hr:Region.ready .any ops L=[]:=by
   cases hr:Region.ready .any ops L with
   | nil=>rfl
   | cons i l =>
    have:=mem_count L i (by rw[hr];exact List.mem_cons_self);rw[List.length_eq_zero_iff.1 (Nat.le_zero.1 hc)] at this;cases this
  exact⟨hr,done L X a hR hr⟩
 | succ fuel ih =>
  intro L X a hR hc;refine⟨λhr=>done L X a hR hr,λi hi=>zBB hT gd hp hG hR hi λX' a' hR'=>ih _ X' a' hR' ?_⟩;have hm:=mem_count L i hi;obtain⟨hiL,⟨o,ho⟩,_⟩:=LX hi;obtain⟨p,q,e⟩:=List.append_of_mem hm;have hsub:(order.filter λk=>!(L.setIfInBounds i true).getD k true)=(order.filter λk=>!L.getD k true).filter λk=>!(k==i):=by
   rw[List.filter_filter];refine List.filter_congr λk hk=>?_;by_cases hki:i=k
   .subst hki;rw[nY (by rw[hR.size];exact(Array.getElem?_eq_some_iff.1 ho).1)];simp
   .rw[getD_set_ne true hki];have:(k==i)=false:=by simpa using λe=>hki e.symm
    rw[this];simp
  rw[hsub,e,List.filter_append,List.filter_cons];rw[e,List.length_append,List.length_cons] at hc;simp only[beq_self_eq_true,Bool.not_true,Bool.false_eq_true,if_false,List.length_append];have h1:=List.length_filter_le (λk=>!(k==i)) p;have h2:=List.length_filter_le (λk=>!(k==i)) q;omega
end plan
theorem zHa(hT:bM P T)(hm:P.follows .mixedOrders=true){Q:Exit->DS->Prop}{s:DS}{id:Nat}{ops:Array Oper}(chain order:List Nat)(hp:zAO ops s.n chain order=true)
  (h:yH P T ops s.n chain (λs'=>Q .normal s') order s.t [s.h]):SWP P X0 (.region id ops true) s Q:=by
 intro gd X a hh hi hs ht;have hp:=zGB hp;obtain⟨V,H,h1,h2,h3⟩:=BA order s.t [s.h] 0 rfl hp.nodup h;simp only[Nat.zero_add] at h2 h3;have h0:=h1 0 (Nat.le_refl _);simp only[Nat.sub_self,List.getElem?_cons_zero,Option.some.injEq] at h0;refine wp_region_any hm (zEh hT gd hp h2 h3 _ _ X.draw a ?_ ?_)
 .have hf:∀k,(Array.replicate ops.size false).getD k false=false:=getD_replicate_false _;refine⟨by simp,λi hi'=>?_,?_,zIu hi,hs.trans hi (AZ hi),ht.size,ht.defs,λk j hk=>?_,λj _=>(ht.rel j).step (AZ hi)⟩
  .rw[hf] at hi';cases hi'
  .have:(chain.filter λe=>(Array.replicate ops.size false).getD e false)=[]:=by
    rw[List.filter_eq_nil_iff];intro k _;rw[hf];simp
   rw[this,List.length_nil,h0];exact hh
  .rw[hf] at hk;cases hk
 .refine Nat.le_trans (List.length_filter_le _ _) ?_;exact hp.len
end
end Go.Dm
end
section
namespace Go.Dm
open Go
section
variable {P:Program}{T:Tab}{X0:Ctx}{ops:Array Oper}{n:Nat}{chain:List Nat}{K:DS->Prop}
variable {t:Fr}{h:aD}{old:List aD}{i:Nat}{rest:List Nat}{o:Oper}
theorem zIv(hk:K ⟨n,t,h⟩):yH P T ops n chain K [] t (h::old):=by
 intro h' old' e;cases e;exact hk
theorem PR(v:DV)(ho:ops[i]?=some o)(hc:chain.contains i=false)(h1:One P T ops n o t h v h)
 (h2:∀h0∈old.take (old.length-zO4 ops chain i),One P T ops n o t h0 v h0)(h3:yH P T ops n chain K rest (VW t o.dst v) (h::old)):yH P T ops n chain K (i::rest) t (h::old):=by
 refine⟨o,h,old,ho,rfl,?_⟩;rw[if_neg (by rw[hc];simp)];exact⟨v,h1,h2,h3⟩
theorem zMm(v:DV)(h':aD)(ho:ops[i]?=some o)(hc:chain.contains i=true)(h1:One P T ops n o t h v h')
 (h3:yH P T ops n chain K rest (VW t o.dst v) (h' :: h::old)):yH P T ops n chain K (i::rest) t (h::old):=by
 refine⟨o,h,old,ho,rfl,?_⟩;rw[if_pos hc];exact⟨v,h',h1,h3⟩
section
variable {P:Program}{T:Tab}{X0:Ctx}{ops:Array Oper}{n:Nat}{chain:List Nat}{K:DS->Prop}
end
section
variable {P:Program}{T:Tab}{X0:Ctx}{ops:Array Oper}{n:Nat}{chain:List Nat}{K:DS->Prop}
end
section
variable {P:Program}{T:Tab}{X0:Ctx}{ops:Array Oper}{n:Nat}{chain:List Nat}{K:DS->Prop}
end
end
end Go.Dm
end
section
namespace Go.Dm
open Go
variable {X:Ctx}{v:Value}
def wkP(x y:PV):Prop:=x=y∨(x=.nil/\∃k,y=.sl k [])
def wkC: CV->CV->Prop
 | .p x,.p y=>wkP x y
 | x,y=>x=y
def zHW: List CV->List CV->Prop
 | [],[]=>True
 | x::xs,y::ys=>wkC x y/\zHW xs ys
 | _,_=>False
def wkE: EV->EV->Prop
 | .c x,.c y=>wkC x y
 | .agg xs,.agg ys=>zHW xs ys
 | _,_=>False
def zN2: List EV->List EV->Prop
 | [],[]=>True
 | x::xs,y::ys=>wkE x y/\zN2 xs ys
 | _,_=>False
def wkD: DV->DV->Prop
 | .c x,.c y=>wkC x y
 | .agg xs,.agg ys=>zHW xs ys
 | .tup xs,.tup ys=>zN2 xs ys
 | .jk,.jk=>True
 | _,_=>False
theorem wkP.rfl{x:PV}:wkP x x:=.inl (Eq.refl x)
theorem ZN{k:Nat}:wkP .nil (.sl k []):=.inr ⟨rfl,k,rfl⟩
theorem wkC.rel{x y:CV}(h:wkC x y)(hr:cA X x v):cA X y v:=by
 unfold wkC at h;split at h
 .rcases h with rfl|⟨rfl,k,rfl⟩
  .exact hr
  .simp only[cA] at hr ⊢;exact cZ.nilOf k hr
 .subst h;exact hr
theorem zHW.rel: ∀{xs ys:List CV} {vs:List Value},zHW xs ys->bF X xs vs->bF X ys vs
 | [],[],_,_,h=>h
 | _::_,_::_,_::_,h,hr=>⟨h.1.rel hr.1,zHW.rel h.2 hr.2⟩
 | _::_,_::_,[],_,hr=>hr.elim
theorem wkE.rel{x y:EV}(h:wkE x y)(hr:eD X x v):eD X y v:=by
 unfold wkE at h;split at h
 .exact wkC.rel h hr
 .obtain⟨vs,rfl,h2⟩:=hr;exact⟨vs,rfl,zHW.rel h h2⟩
 .exact h.elim
theorem zN2.rel: ∀{xs ys:List EV} {vs:List Value},zN2 xs ys->cO X xs vs->cO X ys vs
 | [],[],_,_,h=>h
 | _::_,_::_,_::_,h,hr=>⟨wkE.rel h.1 hr.1,zN2.rel h.2 hr.2⟩
 | _::_,_::_,[],_,hr=>hr.elim
theorem wkD.rel{x y:DV}(h:wkD x y)(hr:bD X x v):bD X y v:=by
 unfold wkD at h;split at h
 .exact wkC.rel h hr
 .obtain⟨vs,rfl,h2⟩:=hr;exact⟨vs,rfl,zHW.rel h h2⟩
 .obtain⟨vs,rfl,h2⟩:=hr;exact⟨vs,rfl,zN2.rel h h2⟩
 .exact True.intro
 .exact h.elim
theorem aV{P:Program}{f:FuncId}{args:List DV}{h:aD}{R:DV->aD->Prop}(hc:aA P f args h λd h'=>∃d',wkD d d'/\R d' h'):aA P f args h R:=by
 intro X vals hh hi gd hr;rcases hc X vals hh hi gd hr with⟨h1,h2⟩|⟨v,w',h1,h2⟩
 .refine .inl ⟨h1,h2.mono λe w' hv=>?_⟩;obtain⟨v,rfl,d,X',rfl,h3,h4,h5,d',h6,h7⟩:=hv;exact⟨v,rfl,d',X',rfl,h3,h4,h6.rel h5,h7⟩
 .obtain⟨d,X',rfl,h3,h4,h5,d',h6,h7⟩:=h2;exact .inr ⟨v,X'.w,h1,d',X',rfl,h3,h4,h6.rel h5,h7⟩
theorem xH: ∀l:List UInt8,bytesOf (bU l)=some l
 | []=>rfl
 | b::l=>by
  have:=xH l;simp only[bU] at this ⊢;simp only[List.map_cons,bytesOf,byteOf,Int.toNat_natCast,this];simp
theorem zIw(l:List UInt8):(bU l).length=l.length:=by simp[bU]
theorem WV(a b:List UInt8):bU (a++b)=bU a++bU b:=by simp[bU]
theorem zEl(a:List UInt8)(n:Nat):(bU a).take n=bU (a.take n):=by simp[bU]
theorem zEi(a:List UInt8)(n:Nat):(bU a).drop n=bU (a.drop n):=by simp[bU]
theorem zIx(l:List UInt8):∀x∈bU l,x.length=1:=by
 intro x hx;simp only[bU,List.mem_map] at hx;obtain⟨b,_,rfl⟩:=hx;rfl
theorem zGa(b:UInt8)(l:List UInt8)(K:Bool->Prop):zF9 (.sl 1 (bU (b::l))) K=K false:=rfl
theorem zGb(K:Bool->Prop):zF9 (.sl 1 (bU [])) K=(K true/\K false):=rfl
theorem zJV(K:Bool->Prop):zF9 .nil K=K true:=rfl
theorem RS(k:Nat)(e:List PV)(es:List (List PV))(K:Bool->Prop):zF9 (.sl k (e::es)) K=K false:=rfl
theorem YB(k:Nat)(K:Bool->Prop):zF9 (.sl k []) K=(K true/\K false):=rfl
theorem jO: bU []=[]:=rfl
end Go.Dm
end
end
