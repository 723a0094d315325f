/- Part 48 of the proof of roomDrops_card, set without needless blanks. No condition. -/
import Derived.Test.YtlbfnbldeefgmaaGreatDoorS41
import Derived.Test.YtlbfnbldeefgmaaGreatDoorS46
set_option linter.all false
set_option maxRecDepth 100000
set_option maxHeartbeats 16000000
section
namespace Go.Dm.W9
open Go Go.Dm
section
section
variable {P:Program}{T:Tab}{X0:Ctx}
variable {ops:Array Oper}{chain:List Nat}
def mU(ops:Array Oper):List Nat->Bool
 | []=>true
 | e::es=>es.all (λe'=>fC ops 9 e' e) && mU ops es
def RF(ops:Array Oper)(chain:List Nat)(i:Nat)(pre post:List Nat):Bool :=
 (nJ ops i).all pre.contains &&
 (post.all λe=>!chain.contains e || fC ops 9 e i) &&
 (match ops[i]? with
  | some o=>(o.looksAt ops).all λj=>(pre.all λk=>!(dJ ops k==some j) || fC ops 9 i k) && (post.all λk=>!(dJ ops k==some j) || fC ops 9 k i)
  | none=>false) &&
 (match dJ ops i with
  | some j=>post.all λk=>!(dJ ops k==some j)
  | none=>true) &&
 !post.contains i
def FZ(ops:Array Oper)(chain:List Nat):List Nat->List Nat->Bool
 | _,[]=>true
 | pre,i::post=>RF ops chain i pre post && FZ ops chain (pre++[i]) post
def tO(ops:Array Oper)(n:Nat)(chain order:List Nat):Bool :=
 decide (order.length<=ops.size) && ((List.range ops.size).all λi=>order.contains i && match dJ ops i with|some x=>decide (x<n)|none=>true) && (order.filter chain.contains==chain) && mU ops chain && FZ ops chain [] order
theorem sC: ∀(l pre0:List Nat),FZ ops chain pre0 l=true->∀pre i post,l=pre++i::post->RF ops chain i (pre0++pre) post=true
 | [],_,_,pre,i,post,e=>by simp at e
 | x::l,pre0,h,pre,i,post,e=>by
  simp only[FZ,Bool.and_eq_true] at h;cases pre with
  | nil =>
   simp only[List.nil_append,List.cons.injEq] at e;obtain⟨rfl,rfl⟩:=e;simpa using h.1
  | cons y pre =>
   simp only[List.cons_append,List.cons.injEq] at e;obtain⟨rfl,e⟩:=e;have:=sC l (pre0++[x]) h.2 pre i post e;simpa using this
structure PlanAt (ops:Array Oper) (n:Nat) (chain order:List Nat):Prop where
 all:∀i o,ops[i]?=some o->i∈order
 dlt:∀i x,dJ ops i=some x->x<n
 chn:order.filter chain.contains=chain
 prs:∀A e B,chain=A++e::B->∀k∈A,fC ops 9 e k=true
 len:order.length<=ops.size
 at_:∀pre i post,order=pre++i::post->RF ops chain i pre post=true
theorem mB: ∀(l:List Nat),mU ops l=true->∀A e B,l=A++e::B->∀k∈A,fC ops 9 e k=true
 | [],_,A,e,B,h,_,_=>by simp at h
 | x::l,hc,A,e,B,h,k,hk=>by
  simp only[mU,Bool.and_eq_true,List.all_eq_true] at hc;cases A with
  | nil=>cases hk
  | cons y A =>
   simp only[List.cons_append,List.cons.injEq] at h;obtain⟨rfl,rfl⟩:=h;rcases List.mem_cons.1 hk with rfl|hk
   .exact hc.1 e (by simp)
   .exact mB _ hc.2 A e B rfl k hk
theorem AW{n:Nat}{order:List Nat}(h:tO ops n chain order=true):PlanAt ops n chain order:=by
 simp only[tO,Bool.and_eq_true,List.all_eq_true,List.mem_range,beq_iff_eq,decide_eq_true_eq] at h;obtain⟨⟨⟨⟨h0,h1⟩,h2⟩,h3⟩,h4⟩:=h;refine⟨λi o hi=>?_,λi x hx=>?_,h2,mB _ h3,h0,λpre i post e=>by simpa using sC order [] h4 pre i post e⟩
 .have:=(h1 i (Array.getElem?_eq_some_iff.1 hi).1).1;simpa using this
 .have hi:i<ops.size:=by
   rcases Nat.lt_or_ge i ops.size with h|h
   .exact h
   .simp[dJ,Array.getElem?_eq_none h] at hx
  have:=(h1 i hi).2;rw[hx] at this;simpa using this
section plan
variable {ops:Array Oper}{n:Nat}{chain order:List Nat}
variable {j:Nat}{a:Act}{o:Option Tmp}{v:Value}{V:Nat->DV}{H:Nat->aC}{t0:Fr}
theorem PlanAt.uniq(hp:PlanAt ops n chain order){k k':Nat}{j:Tmp}(hk:k∈order)(hk':k'∈order)(h:dJ ops k=some j)(h':dJ ops k'=some j):k'=k:=by
 obtain ⟨pre,post,e⟩:=List.append_of_mem hk;rw[e] at hk';have key:∀x y p q,order=p++x::q->dJ ops x=some j->y∈q->dJ ops y=some j->False:=by
  intro x y p q e hx hy hy';have:=hp.at_ p x q e;simp only[RF,Bool.and_eq_true,hx,List.all_eq_true,Bool.not_eq_true',beq_eq_false_iff_ne] at this;exact this.1.2 y hy hy'
 rcases List.mem_append.1 hk' with hk'|hk'
 .obtain⟨p2,q2,e2⟩:=List.append_of_mem hk';exact(key k' k p2 (q2++k::post) (by rw[e,e2];simp) h' (by simp) h).elim
 .rcases List.mem_cons.1 hk' with rfl|hk'
  .rfl
  .exact(key k k' pre post e h hk' h').elim
theorem PlanAt.nodup(hp:PlanAt ops n chain order):order.Nodup:=by
 suffices h:∀(l pre:List Nat),order=pre++l->l.Nodup from h order [] rfl
 intro l
 induction l with
 | nil=>intro _ _;exact List.nodup_nil
 | cons i l ih =>
  intro pre e;refine List.nodup_cons.2 ⟨λhi=>?_,ih (pre++[i]) (by simpa using e)⟩;have:=hp.at_ pre i l e;simp only[RF,Bool.and_eq_true,Bool.not_eq_true'] at this;have h2:=this.2;simp at h2;exact h2 hi
theorem AY(h:o≠some j):(a.put o v).tmps.getD j undef=a.tmps.getD j undef:=by
 cases o with
 | none=>rfl
 | some i =>
  have hij:i≠j:=λe=>h (by rw[e]);simp only[Act.put];rw[Array.getD_eq_getD_getElem?,Array.getElem?_setIfInBounds_ne hij,<- Array.getD_eq_getD_getElem?]
theorem JC(h:j<a.tmps.size):(a.put (some j) v).tmps.getD j undef=v:=by
 simp only[Act.put];rw[Array.getD_eq_getD_getElem?,Array.getElem?_setIfInBounds_self_of_lt h];rfl
theorem JE: (a.put o v).tmps.size=a.tmps.size:=by cases o<;>simp[Act.put]
theorem JB: (a.put o v).defers=a.defers:=by cases o<;>rfl
theorem uW(hT:bF P T)(gd:Gnd P X0)(hp:PlanAt ops n chain order)(hG:∀pre i post,order=pre++i::post->Good P T ops n chain V H (bZ ops V t0 pre) (cnt chain pre) i)
 {L:Array Bool}{X:Ctx}{Q:Exit->Act->World->Prop}(hR:RInv P X0 ops n chain V H t0 L X a){i:Nat}(hi:i∈Region.ready .any ops L){next:Act->World->Prop}
 (hn:∀X' a',RInv P X0 ops n chain V H t0 (L.setIfInBounds i true) X' a'->next a' X'.w):wpOp P ops Q i next a X.w:=by
 obtain⟨hiL,⟨o,ho⟩,hpr⟩:=pX hi;have hiL':L.getD i false=false:=getD_both hiL;have hilt:i<L.size:=by rw[hR.size];exact(Array.getElem?_eq_some_iff.1 ho).1
 obtain⟨pre,post,e⟩:=List.append_of_mem (hp.all i o ho);have hat:=hp.at_ pre i post e;simp only[RF,ho,Bool.and_eq_true,List.all_eq_true,Bool.or_eq_true,Bool.not_eq_true'] at hat;obtain⟨⟨⟨⟨_,hlater⟩,hlook⟩,_⟩,hnp⟩:=hat;have hdst:dJ ops i=o.dst:=by simp[dJ,ho]
 have hinpost:i ∉ post:=by simpa using hnp
 have waiting:∀k,L.getD k false=true->fC ops 9 k i=false:=λk hk=>by
  cases hw:fC ops 9 k i with
  | false=>rfl
  | true =>
   have:=qH hR.closed 9 k i (hR.closed k hk) hw;rw[hiL'] at this;cases this
 have waited:∀k,fC ops 9 i k=true->L.getD k false=true:=λk hk=>qH hR.closed 9 i k hpr hk;have waited6:∀k,fC ops 6 i k=true->L.getD k false=true:=λk hk=>qH hR.closed 6 i k hpr hk;have hch:chain=pre.filter chain.contains++((i::post).filter chain.contains):=by
  conv=>lhs;rw[<- hp.chn,e,List.filter_append]
 have hpostL:∀k∈post.filter chain.contains,L.getD k false=false:=λk hk=>by
  obtain⟨h1,h2⟩:=List.mem_filter.1 hk;cases hl:L.getD k false with
  | false=>rfl
  | true =>
   rcases hlater k h1 with h|h
   .rw[h2] at h;cases h
   .rw[waiting k hl] at h;cases h
 obtain ⟨o',ho',good⟩:=hG pre i post e;rw[ho] at ho';cases ho';have tin:∀h,X.h=h->TInv X ⟨n,keep (o.looksAt ops) (bZ ops V t0 pre),h⟩ a:=by
  intro h _;refine⟨hR.sz,λj=>?_,hR.defs⟩;simp only[oQ];split
  .rename_i hj;have hj':j∈o.looksAt ops:=by simpa using hj
   obtain⟨l1,l2⟩:=hlook j hj';by_cases hk:∃k∈pre,dJ ops k=some j
   .obtain ⟨k,hkp,hkd⟩:=hk;have hkL:L.getD k false=true:=by
     rcases l1 k hkp with h|h
     .rw[hkd] at h;simp at h
     .exact waited k h
    rw[jW hkd pre t0 hkp λk' hk' hd'=>hp.uniq (e▸List.mem_append_left _ hkp) (e▸List.mem_append_left _ hk') hkd hd'];exact hR.relA k j hkL hkd
   .rw [fZ pre t0 λk hkp hkd=>hk ⟨k,hkp,hkd⟩];refine hR.relB j λk hkL hkd=>?_;have hko:k∈order:=by
     unfold dJ at hkd;cases hok:ops[k]? with
     | none=>rw[hok] at hkd;cases hkd
     | some ok=>exact hp.all k ok hok
    rw[e] at hko;rcases List.mem_append.1 hko with h|h
    .exact hk ⟨k,h,hkd⟩
    .rcases List.mem_cons.1 h with rfl|h
     .rw[hiL'] at hkL;cases hkL
     .rcases l2 k h with h'|h'
      .rw[hkd] at h';simp at h'
      .rw[waiting k hkL] at h';cases h'
  .exact True.intro
 have fin:∀h',One P T ops n o (bZ ops V t0 pre) X.h (V i) h'->h'=H (chain.filter λk=>(L.setIfInBounds i true).getD k false).length->wpOp P ops Q i next a X.w:=by
  intro h' hone hh';have:=FO (Q:=Q) (next:=next) hT (s:=⟨n,keep (o.looksAt ops) (bZ ops V t0 pre),X.h⟩) rfl hR.hi (gd.step hR.hs) (tin _ rfl) hone ?_
  .unfold wpOp;simp only[ho];split
   .rename_i hw;rw[if_pos hw] at this;exact .inl this
   .rename_i hw;rw[if_neg hw] at this;exact this
  .intro d v X' hk hi' hs' hr;obtain⟨k1,k2⟩:=hk;have k1':X'.h=h':=by rw[<- k1];unfold DS.put;split<;>(try split)<;>rfl
   refine hn X' _ ⟨by simp[hR.size],λx hx k hk=>?_,by rw[k1',hh'],hi',hR.hs.trans hR.hi hs',by rw[JE];exact hR.sz,by rw[JB];exact hR.defs,λk j hk hkd=>?_,λj hj=>?_⟩
   .rcases iJ hx with rfl|hx
    .exact getD_set_true (hpr k hk)
    .exact getD_set_true (hR.closed x hx k hk)
   .rcases iJ hk with rfl|hk
    .rw[hdst] at hkd;have hjn:j<n:=hp.dlt k j (by rw[hdst];exact hkd);simp only[hkd,DS.put,if_pos hjn,res,look,if_true] at k2;rw[hkd,JC (by rw[hR.sz];exact hjn),<- k2];exact hr
    .rw [AY]
     .exact(hR.relA k j hk hkd).step hs'
     .intro hd;have:k=i:=hp.uniq (hp.all i o ho) (by
       unfold dJ at hkd;cases hok:ops[k]? with
       | none=>rw[hok] at hkd;cases hkd
       | some ok=>exact hp.all k ok hok) (hdst.trans hd) hkd
      rw[this,hiL'] at hk;cases hk
   .rw[AY]
    .exact(hR.relB j λk hk=>hj k (getD_set_true hk)).step hs'
    .rw[<- hdst];exact hj i (fG hilt false)
 have hAL:((pre.filter chain.contains).filter λk=>L.getD k false).length=(chain.filter λk=>L.getD k false).length:=by
  conv=>rhs;rw[hch]
  rw [List.filter_append,List.length_append];have:((i::post).filter chain.contains).filter (λk=>L.getD k false)=[]:=by
   rw[List.filter_eq_nil_iff];intro k hk;obtain⟨h1,h2⟩:=List.mem_filter.1 hk;rcases List.mem_cons.1 h1 with rfl|h1
   .rw[hiL'];simp
   .rw[hpostL k (List.mem_filter.2 ⟨h1,h2⟩)];simp
  rw[this];rfl
 by_cases hc:chain.contains i=true
 .rw [if_pos hc] at good;have hch':chain=pre.filter chain.contains++i::post.filter chain.contains:=by
   conv=>lhs;rw[hch,List.filter_cons,if_pos hc]
  have hA:∀k∈pre.filter chain.contains,L.getD k false=true:=λk hk=>waited k (hp.prs _ _ _ hch' k hk);have hcn:cnt chain pre=(chain.filter λk=>L.getD k false).length:=by
   rw[<- hAL,List.filter_eq_self.2 hA];rfl
  rw[hcn,<- hR.hh] at good;refine fin _ good ?_
  congr 1
  rw[<- hcn]
  conv=>rhs;rw[hch',List.filter_append,List.filter_cons,if_pos (fG hilt false)]
  have h1:(pre.filter chain.contains).filter (λk=>(L.setIfInBounds i true).getD k false)=pre.filter chain.contains:=List.filter_eq_self.2 λk hk=>getD_set_true (hA k hk);have h2:(post.filter chain.contains).filter (λk=>(L.setIfInBounds i true).getD k false)=[]:=by
   rw[List.filter_eq_nil_iff];intro k hk;have hki:i≠k:=λe=>hinpost (e▸(List.mem_filter.1 hk).1);rw[getD_set_ne false hki,hpostL k hk];simp
  rw[h1,h2];simp[cnt]
 .rw[if_neg hc] at good;have hone:=good (chain.filter λk=>L.getD k false).length (nB _ _ _ λk _ hk=>waited6 k hk) (by rw[<- hAL];exact List.length_filter_le _ _);rw[<- hR.hh] at hone;refine fin _ hone ?_;rw[hR.hh]
  congr 1
  refine sU _ _ _ λk hk=>?_;have hki:i≠k:=by rintro rfl;exact hc (by simpa using hk)
  rw[getD_set_ne false hki]
theorem zB(hT:bF P T)(gd:Gnd P X0)(hp:PlanAt ops n chain order)(hG:∀pre i post,order=pre++i::post->Good P T ops n chain V H (bZ ops V t0 pre) (cnt chain pre) i)
 {Q:Exit->DS->Prop}(hK:Q .normal ⟨n,bZ ops V t0 order,H (cnt chain order)⟩):∀(fuel:Nat) (L:Array Bool) (X:Ctx) (a:Act),RInv P X0 ops n chain V H t0 L X a ->
   (order.filter λk=>!L.getD k true).length<=fuel->wpAny P .any ops (zF0 X0 Q) fuel L a X.w:=by
 have done:∀(L:Array Bool) (X:Ctx) (a:Act),RInv P X0 ops n chain V H t0 L X a->Region.ready .any ops L=[]->zF0 X0 Q .normal a X.w:=by
  intro L X a hR hr;have hall:∀(post pre:List Nat),order=pre++post->(∀k∈pre,L.getD k false=true)->∀k∈order,L.getD k false=true:=by
   intro post
   induction post with
   | nil=>intro pre e h k hk;rw[e,List.append_nil] at hk;exact h k hk
   | cons i post ih =>
    intro pre e h;refine ih (pre++[i]) (by simpa using e) λk hk=>?_;rcases List.mem_append.1 hk with hk|hk
    .exact h k hk
    .rw [List.mem_singleton] at hk;subst hk;have hat:=hp.at_ pre k post e;simp only[RF,Bool.and_eq_true,List.all_eq_true] at hat;cases hl:L.getD k false with
     | true=>rfl
     | false =>
      have hk:k<ops.size:=by
       have:=hat.1.1.2;cases hok:ops[k]? with
       | none=>rw[hok] at this;cases this
       | some ok=>exact(Array.getElem?_eq_some_iff.1 hok).1
      have:k∈Region.ready .any ops L:=XY (getD_in (by rw[hR.size];exact hk) hl) hk λm hm=>h m (by simpa using hat.1.1.1.1 m hm);rw[hr] at this;cases this
  have hL:=hall order [] rfl (λk hk=>by cases hk)
  refine⟨_,X,hK,rfl,?_,hR.hi,hR.hs,hR.sz,λj=>?_,hR.defs⟩
  .rw[hR.hh];simp only[cnt,hp.chn];rw[List.filter_eq_self.2];intro k hk;rw[<- hp.chn] at hk;exact hL k (List.mem_filter.1 hk).1
  .by_cases hk:∃k∈order,dJ ops k=some j
   .obtain⟨k,hkp,hkd⟩:=hk;simp only;rw[jW hkd order t0 hkp λk' hk' hd'=>hp.uniq hkp hk' hkd hd'];exact hR.relA k j (hL k hkp) hkd
   .simp only;rw[fZ order t0 λk hkp hkd=>hk ⟨k,hkp,hkd⟩];refine hR.relB j λk _ hkd=>hk ⟨k,?_,hkd⟩;unfold dJ at hkd;cases hok:ops[k]? with
    | none=>rw[hok] at hkd;cases hkd
    | some ok=>exact hp.all k ok hok
 have mem_count:∀(L:Array Bool) i,i∈Region.ready .any ops L->i∈order.filter λk=>!L.getD k true:=λL i hi=>by
  obtain⟨h1,⟨o,h2⟩,_⟩:=pX hi;exact List.mem_filter.2 ⟨hp.all i o h2,by rw[h1];rfl⟩
 intro fuel
 induction fuel with
 | zero =>
  intro L X a hR hc;have hr:Region.ready .any ops L=[]:=by
   cases hr:Region.ready .any ops L with
   | nil=>rfl
   | cons i l =>
    have:=mem_count L i (by rw[hr];exact List.mem_cons_self);rw[List.length_eq_zero_iff.1 (Nat.le_zero.1 hc)] at this;cases this
  exact⟨hr,done L X a hR hr⟩
 | succ fuel ih =>
  intro L X a hR hc;refine⟨λhr=>done L X a hR hr,λi hi=>uW hT gd hp hG hR hi λX' a' hR'=>ih _ X' a' hR' ?_⟩;have hm:=mem_count L i hi;obtain⟨hiL,⟨o,ho⟩,_⟩:=pX hi;obtain⟨p,q,e⟩:=List.append_of_mem hm;have hsub:(order.filter λk=>!(L.setIfInBounds i true).getD k true)=(order.filter λk=>!L.getD k true).filter λk=>!(k==i):=by
   rw[List.filter_filter];refine List.filter_congr λk hk=>?_;by_cases hki:i=k
   .subst hki;rw[fG (by rw[hR.size];exact(Array.getElem?_eq_some_iff.1 ho).1)];simp
   .rw[getD_set_ne true hki];have:(k==i)=false:=by simpa using λe=>hki e.symm
    rw[this];simp
  rw[hsub,e,List.filter_append,List.filter_cons];rw[e,List.length_append,List.length_cons] at hc;simp only[beq_self_eq_true,Bool.not_true,Bool.false_eq_true,if_false,List.length_append];have h1:=List.length_filter_le (λk=>!(k==i)) p;have h2:=List.length_filter_le (λk=>!(k==i)) q;omega
end plan
theorem swp_drawn(hT:bF P T)(hm:P.follows .mixedOrders=true){Q:Exit->DS->Prop}{s:DS}{id:Nat}{ops:Array Oper}(chain order:List Nat)(hp:tO ops s.n chain order=true)
  (h:uX P T ops s.n chain (λs'=>Q .normal s') order s.t [s.h]):SWP P X0 (.region id ops true) s Q:=by
 intro gd X a hh hi hs ht;have hp:=AW hp;obtain⟨V,H,h1,h2,h3⟩:=sR order s.t [s.h] 0 rfl hp.nodup h;simp only[Nat.zero_add] at h2 h3;have h0:=h1 0 (Nat.le_refl _);simp only[Nat.sub_self,List.getElem?_cons_zero,Option.some.injEq] at h0;refine wp_region_any hm (zB hT gd hp h2 h3 _ _ X.draw a ?_ ?_)
 .have hf:∀k,(Array.replicate ops.size false).getD k false=false:=getD_replicate_false _;refine⟨by simp,λi hi'=>?_,?_,WT hi,hs.trans hi (oE hi),ht.size,ht.defs,λk j hk=>?_,λj _=>(ht.rel j).step (oE hi)⟩
  .rw[hf] at hi';cases hi'
  .have:(chain.filter λe=>(Array.replicate ops.size false).getD e false)=[]:=by
    rw[List.filter_eq_nil_iff];intro k _;rw[hf];simp
   rw[this,List.length_nil,h0];exact hh
  .rw[hf] at hk;cases hk
 .refine Nat.le_trans (List.length_filter_le _ _) ?_;exact hp.len
end
section
variable {P:Program}{T:Tab}{X0:Ctx}
theorem aG(hT:bF P T)(hm:P.follows .mixedOrders=true){id:Nat}{l:List Oper}{n:Nat}{t:Fr}{h:aC}{Q:Exit->DS->Prop}(chain order:List Nat)(hp:tO l.toArray n chain order=true)(hd:uX P T l.toArray n chain (Q .normal) order t [h]):
  SWP P X0 (.region id l.toArray true) ⟨n,t,h⟩ Q:=W9.swp_drawn hT hm chain order hp hd
end
end
end Go.Dm.W9
end
section
namespace Go.Proofs.YtlbfnbldeefgmaaGreatDoor
open Go Go.Dm Go.Proofs Go.Proofs.Tryz
theorem zOx{i p s:Int}{f:Bool}:zJ0 prog 70 [.i .i64 i,.i .i64 p,.i .i64 s,.b f] [.i .i64 i,.i .i64 p,.i .i64 s,.b f] true:=by
 refine⟨by kernel_rfl,λvx vy w hx hy=>?_⟩
 have one:∀vx:List Value,[PV.i .i64 i,.i .i64 p,.i .i64 s,.b f].map iX=vx.map some->vx=[.int .i64 i,.int .i64 p,.int .i64 s,.bool f]:=λvx hx=>by
  match vx,hx with
  | [a,b,c,d],hx=>simp only[List.map_cons,List.map_nil,iX,List.cons.injEq,Option.some.injEq,and_true] at hx;rw[<- hx.1,<- hx.2.1,<- hx.2.2.1,<- hx.2.2.2]
  | [],hx=>simp at hx
  | [_],hx=>simp at hx
  | [_,_],hx=>simp at hx
  | [_,_,_],hx=>simp at hx
  | _::_::_::_::_::_,hx=>simp at hx
 rw[one vx hx,one vy hy];have u1:=Tryz.underlying3;have a1:=Tryz.isAgg3;have z1:=Tryz.sizeOf3;have u2:=Tryz.underlying4;have a2:=Tryz.isAgg4;have z2:=Tryz.sizeOf4;have hS:Tryz.prog.underlying 70=some (.struct (Tryz.prog.fieldsOf 70)):=by kernel_rfl
 have hp:Tryz.prog.stoodInHeld 70=false:=by kernel_rfl
 rw[show (10000:Nat)=9999+1 from rfl,run_equalIn_agg w 9999 70 _ _ hS hp]
 simp only[Program.fieldsOf,Tryz.underlying70]
 go_simp
theorem zNd{ti:TI}{h:aC}{i p s:Int}{f:Bool}{K:DV->aC->Prop}(hK:K (.c (.p (.b false))) h):
  zF4 prog 70 ti h .neq (.agg [.p (.i .i64 i),.p (.i .i64 p),.p (.i .i64 s),.p (.b f)]) (.agg [.p (.i .i64 i),.p (.i .i64 p),.p (.i .i64 s),.p (.b f)]) K :=
 zIV [.i .i64 i,.i .i64 p,.i .i64 s,.b f] [.i .i64 i,.i .i64 p,.i .i64 s,.b f] _ rfl rfl rfl rfl zOx (.inr ⟨rfl,hK⟩)
theorem VL{l:List Ly}(hl:l.length<=1000000):aA prog 38 [.c (.p (.sl 4 (cN l))),.c (.p (.sl 4 (cN l)))] [] λr h=>r=.c (.p (.b true))/\h=[]:=by
 refine eT func38 λX0 hX=>?_;simp only[f38,go_sem]
 repeat' (first|exact⟨⟩|refine sp ?_)
 refine bO aF aL (α:=Nat) (λk=>⟨26,[(0,.c (.p (.sl 4 (cN l)))),(1,.c (.p (.sl 4 (cN l)))),(5,.c (.p (.i .i64 k)))],[]⟩)
  (λk=>k<=l.length) (λk=>l.length-k) 0 (Nat.zero_le _) (aS (aD (by rw[hX];rfl) rfl rfl wkK)) ?_
 intro k hk;by_cases hlt:k<l.length
 .have hx:l[k]?=some l[k]:=List.getElem?_eq_getElem hlt;have hg:=gL hx;have h1:decide ((k:Int)<(l.length:Int))=true:=decide_eq_true (by omega);have h2:(k:Int)<(l.length:Int):=by omega
  have h3:(0:Int)<=k:=by omega
  have w1:IntKind.i64.wrap ((k:Int)+1)=k+1:=wrap_i64 (by omega) (by omega);generalize l[k]=x at hx hg;clear hx
  repeat' (first|exact⟨⟩|refine sp ?_|((refine aG (id:=6) aF aL [] [0,1,2,3,4,5,6,7,8] (by decide +kernel) ?_);(repeat' (first|(refine aP ?_)|((refine bI ?_ rfl rfl ?_ ?_);(rotate_left 1);(focus ((repeat' (first|exact⟨⟩|refine sp ?_|refine zNd ?_));exact rfl));(simp only[aB]))))))
  exact fL (k+1) (by omega) (by omega) (aS (aD rfl rfl rfl wkK))
 .have h1:decide ((k:Int)<(l.length:Int))=false:=decide_eq_false (by omega)
  repeat' (first|exact⟨⟩|refine sp ?_)
end Go.Proofs.YtlbfnbldeefgmaaGreatDoor
end
section
namespace Go.Proofs.YtlbfnbldeefgmaaGreatDoor
open Go Go.Dm Go.Proofs.Tryz
theorem zLw{a:List It}(ha:a.length<=1000000):aA prog 16 [.c (.p (.sl 5 (aQ a))),.c (.p (.sl 5 (aQ a)))] [] λr h=>r=.c (.p (.b true))/\h=[]:=by
 refine eT func16 λX0 hX=>?_;simp only[f16,go_sem]
 repeat' (first|exact⟨⟩|refine sp ?_)
 refine aX aF aL (α:=Nat) (λk=>⟨42,[(0,.c (.p (.sl 5 (aQ a)))),(1,.c (.p (.sl 5 (aQ a)))),(5,.c (.p (.i .i64 k)))],[]⟩)
  (λk=>k<=a.length) (λk=>a.length-k) 0 (Nat.zero_le _) (.inl (aD (by rw[hX];rfl) rfl rfl wkS)) ?_
 intro k hk;by_cases hlt:k<a.length
 .have hx:a[k]?=some a[k]:=List.getElem?_eq_getElem hlt;have hg:=cW hx;have h1:decide ((k:Int)<(a.length:Int))=true:=decide_eq_true (by omega);have hli:(k:Int)<(a.length:Int):=by omega
  have hk0:(0:Int)<=k:=by omega
  have w1:IntKind.i64.wrap ((k:Int)+1)=k+1:=wrap_i64 (by omega) (by omega);generalize a[k]=x at hx hg;have e1:=rU x.n;clear hx
  repeat' (first|exact⟨⟩|refine sp ?_|((refine aG (id:=6) aF aL [] [0,1,2,3,4,5,6,7,8,9,10,11,12,13,14,15,16,17,18,19,20,21,22,23,24] (by decide +kernel) ?_);(repeat' (first|(refine aP ?_)|((refine bI ?_ rfl rfl ?_ ?_);(rotate_left 1);(focus ((repeat' (first|exact⟨⟩|refine sq ?_|refine uF (zBa) ?_));exact rfl));(simp only[aB]))))))
  exact gG (k+1) (by omega) (by omega) (aD rfl rfl rfl wkS)
 .have h1:decide ((k:Int)<(a.length:Int))=false:=decide_eq_false (by omega)
  repeat' (first|exact⟨⟩|refine sp ?_)
end Go.Proofs.YtlbfnbldeefgmaaGreatDoor
end
section
namespace Go.Dm
open Go
section
variable {N:List Nm}{q s:List UInt8}{d:Dr}{r r':Rm}{p:Int}{t:List It}
theorem NF(h:∀x∈N,x.n≠q):lX N q=none:=List.find?_eq_none.2 λx hx=>by
 have:=h x hx;simpa using this
theorem ND(h:uL N)(s:List UInt8)(q:List UInt8):lX (iA N s) q=if q=s then none else lX N q:=by
 have hs:=sQ h s;split
 .rename_i e;subst e;exact NF λx hx=>(gK.1 hx).2
 .rename_i hne;cases hn:lX N q with
  | some x =>
   obtain⟨h1,rfl⟩:=dO hn;exact zEm hs (gK.2 ⟨h1,hne⟩)
  | none =>
   refine NF λx hx e=>?_;have:=zEl hn x (gK.1 hx).1;simp[e] at this
theorem iG(h:OkW d){n:Nm}(hn:lX d.N q=some n):eP d q=(cF d n.l,0):=by
 obtain⟨h1,h2⟩:=dO hn;obtain⟨y,_,h3,h4⟩:=h.named h1;have:=h.g.lo1 _ (nX h3);unfold eP cQ;rw[hn];show (if n.l==0 then _ else _)=_
 rw[if_neg (by simp;omega)]
theorem mP(hn:lX d.N q=none):eP d q=([],6):=by
 unfold eP cQ;rw[hn];rfl
theorem zHS(h:SimW r d):OkW (oN d):=by
 have hG:=zDN h.g.inc;have hcl:=rF h.g (iK d.N);have hpg:OkG (oN d).G:=by rw[hG,sY];exact HX h.g hcl
 have hm:∀y,y∈(oN d).L↔y∈d.L/\rE d.G (iK d.N) y.1.i=true:=λy=>xQ h.g.inc;have hnm:∀n∈d.N,rE d.G (iK d.N) n.l=true:=λn hn=>by
  obtain⟨y,_,h1,h2⟩:=h.toOkW.named hn;exact TD hn (by rw[<- h2];exact lY (nX h1))
 exact { g:=hpg,t:=λy hy=>h.t y ((hm y).1 hy).1,srt:=h.srt,nm:=λn hn=>(by obtain⟨h1,y,h2,h3⟩:=h.nm n hn;exact⟨h1,y,(hm y).2 ⟨h2,by rw[h3];exact hnm n hn⟩,h3⟩),one:=λn hn m hmm e hfz=>h.one n hn m hmm e λy h2 h3=>hfz y ((hm y).2 ⟨h2,by rw[h3];exact hnm n hn⟩) h3,nx:=⟨λy hy=>h.nx.1 y ((hm y).1 hy).1,h.nx.2⟩,ln:=h.ln }
theorem SZ(h:SimW r d)(q:List UInt8):eP (oN d) q=eP d q:=by
 cases hn:lX d.N q with
 | none=>rw[mP hn,mP (d:=oN d) hn]
 | some n =>
  rw[iG h.toOkW hn,iG (zHS h) (q:=q) (n:=n) hn];obtain⟨h1,_⟩:=dO hn;obtain⟨y,_,h3,h4⟩:=h.toOkW.named h1;rw[MN h.g (.inr (TD h1 (by rw[<- h4];exact lY (nX h3))))]
theorem zD(h:Sim r d)(s z:List UInt8):eP (SF d s).1 z=if z=s then ([],6) else eP d z:=by
 unfold SF;rw[h.toOkW.name0];cases hs:(lX d.N s).isSome
 .simp only[Bool.not_false,if_true];split
  .rename_i e;subst e;exact mP (by cases hz:lX d.N z with
    | none=>rfl
    | some x=>rw[hz] at hs;cases hs)
  .rfl
 .simp only[Bool.not_true,Bool.false_eq_true,if_false];have hw:=qB h.toSimW (N:=iA d.N s) (sQ h.srt s) (λn hn=>h.nm n (gK.1 hn).1) (λn hn m hm=>h.one n (gK.1 hn).1 m (gK.1 hm).1) (Nat.le_trans (zC _ _) h.ln);rw[SZ hw];have hd:=ND h.srt s z;split
  .rename_i e;rw[if_pos e] at hd;exact mP (d:=⟨d.L,iA d.N s,d.x⟩) hd
  .rename_i hne;rw[if_neg hne] at hd;cases hz:lX d.N z with
   | none =>
    rw[hz] at hd;rw[mP hz,mP (d:=⟨d.L,iA d.N s,d.x⟩) hd]
   | some n =>
    rw[hz] at hd;rw[iG h.toOkW hz,iG hw.toOkW (d:=⟨d.L,iA d.N s,d.x⟩) hd];rfl
theorem zHU(h:Sim r d):gX r.L (iK r.N)=r.L:=by
 rw[h.L,h.N];unfold gX;rw[List.filter_eq_self];intro x hx;obtain⟨y,hy,rfl⟩:=CT.1 hx;obtain⟨n,h1,h2⟩:=h.kept y hy;exact List.any_eq_true.2 ⟨n.l,List.mem_map.2 ⟨n,h1,rfl⟩,by rw[List.contains_iff_mem];exact h2⟩
theorem zAw(h:Sim r d)(hn:r.N.length=0):r.L.length=0:=by
 rw[h.L];have hN:d.N=[]:=by rw[<- h.N];exact List.eq_nil_of_length_eq_zero hn
 have:d.L=[]:=by
  cases hl:d.L with
  | nil=>rfl
  | cons y l =>
   obtain⟨n,h1,_⟩:=h.kept y (by rw[hl];exact List.mem_cons_self);rw[hN] at h1;cases h1
 simp[Dr.G,this]
theorem zGB(h:uL N){x:Nm}(hx:x∈N):(iA N x.n).length+1=N.length:=by
 have h1:=(List.getElem?_eq_some_iff.1 (vF h hx)).1;rw[qV h hx,List.length_append,List.length_take,List.length_drop];omega
end
section
def QK(d:Dr)(N:List Nm):List (List It):=N.map λn=>cF d n.l
theorem zBn(d:Dr)(N:List Nm):(QK d N).length=N.length:=by simp[QK]
theorem zFz{d:Dr}{N:List Nm}{k:Nat}{n:Nm}(h:N[k]?=some n):(QK d N)[k]?=some (cF d n.l):=by simp[QK,h]
theorem zHl{t:List (List It)}{k:Nat}{x:List It}(h:t[k]?=some x):(vA t).getD k []=[.sl 5 (aQ x)]:=by
 simp only[vA,List.getD_eq_getElem?_getD,List.getElem?_map,h];rfl
section
variable {r:Rm}{d:Dr}
variable {k j:Nat}{n x:Nm}{N:List Nm}
theorem TN(h:Sim r d)(hn:r.N[k]?=some n):lX d.N n.n=some n:=by
 have:=List.mem_of_getElem? hn;rw[h.N] at this;exact zEm h.srt this
theorem zBg(h:Sim r d)(hn:r.N[k]?=some n):cY r n.n=(cF d n.l,0):=by
 rw[jS h.toSimW,iG h.toOkW (TN h hn)]
theorem zFq(h:uL N){i:Nat}{y:Nm}(hx:N[i]?=some x)(hy:N[j]?=some y)(e:x.n=y.n):i=j:=by
 obtain⟨h1,h2⟩:=List.getElem?_eq_some_iff.1 hx;obtain⟨h3,h4⟩:=List.getElem?_eq_some_iff.1 hy;have hp:=List.pairwise_iff_getElem.1 h;rcases Nat.lt_trichotomy i j with h5|h5|h5
 .have:=hp i j h1 h3 h5;rw[h2,h4,e,bM] at this;cases this
 .exact h5
 .have:=hp j i h3 h1 h5;rw[h2,h4,e,bM] at this;cases this
theorem zGD(h:Sim r d)(hx:r.N[k]?=some x):∃(r2:Rm) (d2:Dr),qW r x.n=(r2,0)/\Sim r2 d2/\qW r2 x.n=(r2,6)/\r2.N.length+1=r.N.length/\r2.N=r.N.take k++r.N.drop (k+1) /\
  cY r2 x.n=([],6)/\(∀(j:Nat) (n:Nm),r.N[j]?=some n->j≠k->cY r2 n.n=(cF d n.l,0))/\gX r2.L (iK r2.N)=r2.L:=by
 have hs:uL r.N:=by rw[h.N];exact h.srt
 have hm:=List.mem_of_getElem? hx;have hz:=TN h hx;have his:JW r.N x.n=true:=by rw[<- vG,h.N,hz];rfl
 have e1:qW r x.n=(wA ⟨iA r.N x.n,r.L,r.E,r.x⟩,0):=by unfold qW;rw[his];rfl
 have hsim:=(WU h x.n).2;rw[e1] at hsim;have hN:(wA ⟨iA r.N x.n,r.L,r.E,r.x⟩).N=iA r.N x.n:=rfl;have hno:JW (iA r.N x.n) x.n=false:=by rw[<- vG,ND hs,if_pos rfl];rfl
 have hat:kY r.N x.n=k:=zFq hs (vF hs hm) hx rfl;refine⟨_,_,e1,hsim,?_,?_,?_,?_,λj n hn hj=>?_,zHU hsim⟩
 .unfold qW;rw[hN,hno];rfl
 .rw[hN];exact zGB hs hm
 .rw[hN,qV hs hm,hat]
 .rw[jS hsim.toSimW,zD h,if_pos rfl]
 .rw[jS hsim.toSimW,zD h,if_neg λe=>hj (zFq hs hn hx e),iG h.toOkW (TN h hn)]
def RJ(N:List Nm)(k j:Nat):List Nm:=(N.take j).take k++(N.take j).drop (k+1)
theorem zBN(N:List Nm)(k:Nat):RJ N k 0=[]:=by simp[RJ]
theorem WD(N:List Nm)(k:Nat):RJ N k N.length=N.take k++N.drop (k+1):=by simp[RJ]
theorem zBM(hn:N[j]?=some n):RJ N k (j+1)=RJ N k j++(if (j:Int)==(k:Int) then [] else [n]):=by
 have hl:=(List.getElem?_eq_some_iff.1 hn).1;have hlen:(N.take j).length=j:=by rw[List.length_take];omega
 unfold RJ;rw[List.take_add_one,hn];simp only[Option.toList_some];rcases Nat.lt_trichotomy j k with h|h|h
 .rw[if_neg (by simp;omega),List.take_append,List.drop_append];have e1:(N.take j).take k=N.take j:=List.take_of_length_le (by omega);have e2:(N.take j).drop (k+1)=[]:=List.drop_of_length_le (by omega);have e3:[n].take (k-(N.take j).length)=[n]:=List.take_of_length_le (by simp;omega);have e4:[n].drop (k+1-(N.take j).length)=[]:=List.drop_of_length_le (by simp;omega);simp only[e1,e2,e3,e4,List.append_nil]
 .subst h;rw[if_pos (by simp),List.take_append,List.drop_append];have e2:(N.take j).drop (j+1)=[]:=List.drop_of_length_le (by omega);have e3:[n].take (j-(N.take j).length)=[]:=by rw[hlen,Nat.sub_self];rfl
  have e4:[n].drop (j+1-(N.take j).length)=[]:=List.drop_of_length_le (by simp;omega);simp only[e2,e3,e4,List.append_nil]
 .rw[if_neg (by simp;omega),List.take_append,List.drop_append];have e3:[n].take (k-(N.take j).length)=[]:=by rw[show k-(N.take j).length=0 by omega];rfl
  have e4:[n].drop (k+1-(N.take j).length)=[n]:=by rw[show k+1-(N.take j).length=0 by omega];rfl
  rw[e3,e4,List.append_nil,List.append_assoc]
theorem zGe: (RJ N k j).length<=N.length:=by
 unfold RJ;simp only[List.length_append,List.length_take,List.length_drop];omega
end
end
end Go.Dm
end
