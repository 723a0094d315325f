/- Part 47 of the proof of roomStays_card, set without needless blanks. No condition. -/
import Derived.Test.YtlbfnbldeefgmaaGreatDoorT41
set_option linter.all false
set_option maxRecDepth 100000
set_option maxHeartbeats 16000000
section
namespace Go.Dm.W9
open Go Go.Dm
section
section
variable {P:Program}{T:Tab}{X0:Ctx}
variable {ops:Array Oper}{chain:List Nat}
def nD(ops:Array Oper):List Nat->Bool
 | []=>true
 | e::es=>es.all (λe'=>fK ops 9 e' e) && nD ops es
def SL(ops:Array Oper)(chain:List Nat)(i:Nat)(pre post:List Nat):Bool :=
 (nT ops i).all pre.contains &&
 (post.all λe=>!chain.contains e || fK ops 9 e i) &&
 (match ops[i]? with
  | some o=>(o.looksAt ops).all λj=>(pre.all λk=>!(dM ops k==some j) || fK ops 9 i k) && (post.all λk=>!(dM ops k==some j) || fK ops 9 k i)
  | none=>false) &&
 (match dM ops i with
  | some j=>post.all λk=>!(dM ops k==some j)
  | none=>true) &&
 !post.contains i
def GS(ops:Array Oper)(chain:List Nat):List Nat->List Nat->Bool
 | _,[]=>true
 | pre,i::post=>SL ops chain i pre post && GS ops chain (pre++[i]) post
def tX(ops:Array Oper)(n:Nat)(chain order:List Nat):Bool :=
 decide (order.length<=ops.size) && ((List.range ops.size).all λi=>order.contains i && match dM ops i with|some x=>decide (x<n)|none=>true) && (order.filter chain.contains==chain) && nD ops chain && GS ops chain [] order
theorem sN: ∀(l pre0:List Nat),GS ops chain pre0 l=true->∀pre i post,l=pre++i::post->SL ops chain i (pre0++pre) post=true
 | [],_,_,pre,i,post,e=>by simp at e
 | x::l,pre0,h,pre,i,post,e=>by
  simp only[GS,Bool.and_eq_true] at h;cases pre with
  | nil =>
   simp only[List.nil_append,List.cons.injEq] at e;obtain⟨rfl,rfl⟩:=e;simpa using h.1
  | cons y pre =>
   simp only[List.cons_append,List.cons.injEq] at e;obtain⟨rfl,e⟩:=e;have:=sN l (pre0++[x]) h.2 pre i post e;simpa using this
structure PlanAt (ops:Array Oper) (n:Nat) (chain order:List Nat):Prop where
 all:∀i o,ops[i]?=some o->i∈order
 dlt:∀i x,dM ops i=some x->x<n
 chn:order.filter chain.contains=chain
 prs:∀A e B,chain=A++e::B->∀k∈A,fK ops 9 e k=true
 len:order.length<=ops.size
 at_:∀pre i post,order=pre++i::post->SL ops chain i pre post=true
theorem mK: ∀(l:List Nat),nD ops l=true->∀A e B,l=A++e::B->∀k∈A,fK ops 9 e k=true
 | [],_,A,e,B,h,_,_=>by simp at h
 | x::l,hc,A,e,B,h,k,hk=>by
  simp only[nD,Bool.and_eq_true,List.all_eq_true] at hc;cases A with
  | nil=>cases hk
  | cons y A =>
   simp only[List.cons_append,List.cons.injEq] at h;obtain⟨rfl,rfl⟩:=h;rcases List.mem_cons.1 hk with rfl|hk
   .exact hc.1 e (by simp)
   .exact mK _ hc.2 A e B rfl k hk
theorem BH{n:Nat}{order:List Nat}(h:tX ops n chain order=true):PlanAt ops n chain order:=by
 simp only[tX,Bool.and_eq_true,List.all_eq_true,List.mem_range,beq_iff_eq,decide_eq_true_eq] at h;obtain⟨⟨⟨⟨h0,h1⟩,h2⟩,h3⟩,h4⟩:=h;refine⟨λi o hi=>?_,λi x hx=>?_,h2,mK _ h3,h0,λpre i post e=>by simpa using sN order [] h4 pre i post e⟩
 .have:=(h1 i (Array.getElem?_eq_some_iff.1 hi).1).1;simpa using this
 .have hi:i<ops.size:=by
   rcases Nat.lt_or_ge i ops.size with h|h
   .exact h
   .simp[dM,Array.getElem?_eq_none h] at hx
  have:=(h1 i hi).2;rw[hx] at this;simpa using this
section plan
variable {ops:Array Oper}{n:Nat}{chain order:List Nat}
variable {j:Nat}{a:Act}{o:Option Tmp}{v:Value}{V:Nat->DV}{H:Nat->aB}{t0:Fr}
theorem PlanAt.uniq(hp:PlanAt ops n chain order){k k':Nat}{j:Tmp}(hk:k∈order)(hk':k'∈order)(h:dM ops k=some j)(h':dM ops k'=some j):k'=k:=by
 obtain ⟨pre,post,e⟩:=List.append_of_mem hk;rw[e] at hk';have key:∀x y p q,order=p++x::q->dM ops x=some j->y∈q->dM ops y=some j->False:=by
  intro x y p q e hx hy hy';have:=hp.at_ p x q e;simp only[SL,Bool.and_eq_true,hx,List.all_eq_true,Bool.not_eq_true',beq_eq_false_iff_ne] at this;exact this.1.2 y hy hy'
 rcases List.mem_append.1 hk' with hk'|hk'
 .obtain⟨p2,q2,e2⟩:=List.append_of_mem hk';exact(key k' k p2 (q2++k::post) (by rw[e,e2];simp) h' (by simp) h).elim
 .rcases List.mem_cons.1 hk' with rfl|hk'
  .rfl
  .exact(key k k' pre post e h hk' h').elim
theorem PlanAt.nodup(hp:PlanAt ops n chain order):order.Nodup:=by
 suffices h:∀(l pre:List Nat),order=pre++l->l.Nodup from h order [] rfl
 intro l
 induction l with
 | nil=>intro _ _;exact List.nodup_nil
 | cons i l ih =>
  intro pre e;refine List.nodup_cons.2 ⟨λhi=>?_,ih (pre++[i]) (by simpa using e)⟩;have:=hp.at_ pre i l e;simp only[SL,Bool.and_eq_true,Bool.not_eq_true'] at this;have h2:=this.2;simp at h2;exact h2 hi
theorem BJ(h:o≠some j):(a.put o v).tmps.getD j undef=a.tmps.getD j undef:=by
 cases o with
 | none=>rfl
 | some i =>
  have hij:i≠j:=λe=>h (by rw[e]);simp only[Act.put];rw[Array.getD_eq_getD_getElem?,Array.getElem?_setIfInBounds_ne hij,<- Array.getD_eq_getD_getElem?]
theorem JY(h:j<a.tmps.size):(a.put (some j) v).tmps.getD j undef=v:=by
 simp only[Act.put];rw[Array.getD_eq_getD_getElem?,Array.getElem?_setIfInBounds_self_of_lt h];rfl
theorem KA: (a.put o v).tmps.size=a.tmps.size:=by cases o<;>simp[Act.put]
theorem JX: (a.put o v).defers=a.defers:=by cases o<;>rfl
theorem vD(hT:bF P T)(gd:Gnd P X0)(hp:PlanAt ops n chain order)(hG:∀pre i post,order=pre++i::post->Good P T ops n chain V H (cD ops V t0 pre) (cnt chain pre) i)
 {L:Array Bool}{X:Ctx}{Q:Exit->Act->World->Prop}(hR:RInv P X0 ops n chain V H t0 L X a){i:Nat}(hi:i∈Region.ready .any ops L){next:Act->World->Prop}
 (hn:∀X' a',RInv P X0 ops n chain V H t0 (L.setIfInBounds i true) X' a'->next a' X'.w):wpOp P ops Q i next a X.w:=by
 obtain⟨hiL,⟨o,ho⟩,hpr⟩:=qL hi;have hiL':L.getD i false=false:=getD_both hiL;have hilt:i<L.size:=by rw[hR.size];exact(Array.getElem?_eq_some_iff.1 ho).1
 obtain⟨pre,post,e⟩:=List.append_of_mem (hp.all i o ho);have hat:=hp.at_ pre i post e;simp only[SL,ho,Bool.and_eq_true,List.all_eq_true,Bool.or_eq_true,Bool.not_eq_true'] at hat;obtain⟨⟨⟨⟨_,hlater⟩,hlook⟩,_⟩,hnp⟩:=hat;have hdst:dM ops i=o.dst:=by simp[dM,ho]
 have hinpost:i ∉ post:=by simpa using hnp
 have waiting:∀k,L.getD k false=true->fK ops 9 k i=false:=λk hk=>by
  cases hw:fK ops 9 k i with
  | false=>rfl
  | true =>
   have:=qS hR.closed 9 k i (hR.closed k hk) hw;rw[hiL'] at this;cases this
 have waited:∀k,fK ops 9 i k=true->L.getD k false=true:=λk hk=>qS hR.closed 9 i k hpr hk;have waited6:∀k,fK ops 6 i k=true->L.getD k false=true:=λk hk=>qS hR.closed 6 i k hpr hk;have hch:chain=pre.filter chain.contains++((i::post).filter chain.contains):=by
  conv=>lhs;rw[<- hp.chn,e,List.filter_append]
 have hpostL:∀k∈post.filter chain.contains,L.getD k false=false:=λk hk=>by
  obtain⟨h1,h2⟩:=List.mem_filter.1 hk;cases hl:L.getD k false with
  | false=>rfl
  | true =>
   rcases hlater k h1 with h|h
   .rw[h2] at h;cases h
   .rw[waiting k hl] at h;cases h
 obtain ⟨o',ho',good⟩:=hG pre i post e;rw[ho] at ho';cases ho';have tin:∀h,X.h=h->TInv X ⟨n,keep (o.looksAt ops) (cD ops V t0 pre),h⟩ a:=by
  intro h _;refine⟨hR.sz,λj=>?_,hR.defs⟩;simp only[pB];split
  .rename_i hj;have hj':j∈o.looksAt ops:=by simpa using hj
   obtain⟨l1,l2⟩:=hlook j hj';by_cases hk:∃k∈pre,dM ops k=some j
   .obtain ⟨k,hkp,hkd⟩:=hk;have hkL:L.getD k false=true:=by
     rcases l1 k hkp with h|h
     .rw[hkd] at h;simp at h
     .exact waited k h
    rw[kI hkd pre t0 hkp λk' hk' hd'=>hp.uniq (e▸List.mem_append_left _ hkp) (e▸List.mem_append_left _ hk') hkd hd'];exact hR.relA k j hkL hkd
   .rw [gQ pre t0 λk hkp hkd=>hk ⟨k,hkp,hkd⟩];refine hR.relB j λk hkL hkd=>?_;have hko:k∈order:=by
     unfold dM at hkd;cases hok:ops[k]? with
     | none=>rw[hok] at hkd;cases hkd
     | some ok=>exact hp.all k ok hok
    rw[e] at hko;rcases List.mem_append.1 hko with h|h
    .exact hk ⟨k,h,hkd⟩
    .rcases List.mem_cons.1 h with rfl|h
     .rw[hiL'] at hkL;cases hkL
     .rcases l2 k h with h'|h'
      .rw[hkd] at h';simp at h'
      .rw[waiting k hkL] at h';cases h'
  .exact True.intro
 have fin:∀h',One P T ops n o (cD ops V t0 pre) X.h (V i) h'->h'=H (chain.filter λk=>(L.setIfInBounds i true).getD k false).length->wpOp P ops Q i next a X.w:=by
  intro h' hone hh';have:=GG (Q:=Q) (next:=next) hT (s:=⟨n,keep (o.looksAt ops) (cD ops V t0 pre),X.h⟩) rfl hR.hi (gd.step hR.hs) (tin _ rfl) hone ?_
  .unfold wpOp;simp only[ho];split
   .rename_i hw;rw[if_pos hw] at this;exact .inl this
   .rename_i hw;rw[if_neg hw] at this;exact this
  .intro d v X' hk hi' hs' hr;obtain⟨k1,k2⟩:=hk;have k1':X'.h=h':=by rw[<- k1];unfold DS.put;split<;>(try split)<;>rfl
   refine hn X' _ ⟨by simp[hR.size],λx hx k hk=>?_,by rw[k1',hh'],hi',hR.hs.trans hR.hi hs',by rw[KA];exact hR.sz,by rw[JX];exact hR.defs,λk j hk hkd=>?_,λj hj=>?_⟩
   .rcases iR hx with rfl|hx
    .exact getD_set_true (hpr k hk)
    .exact getD_set_true (hR.closed x hx k hk)
   .rcases iR hk with rfl|hk
    .rw[hdst] at hkd;have hjn:j<n:=hp.dlt k j (by rw[hdst];exact hkd);simp only[hkd,DS.put,if_pos hjn,res,look,if_true] at k2;rw[hkd,JY (by rw[hR.sz];exact hjn),<- k2];exact hr
    .rw [BJ]
     .exact(hR.relA k j hk hkd).step hs'
     .intro hd;have:k=i:=hp.uniq (hp.all i o ho) (by
       unfold dM at hkd;cases hok:ops[k]? with
       | none=>rw[hok] at hkd;cases hkd
       | some ok=>exact hp.all k ok hok) (hdst.trans hd) hkd
      rw[this,hiL'] at hk;cases hk
   .rw[BJ]
    .exact(hR.relB j λk hk=>hj k (getD_set_true hk)).step hs'
    .rw[<- hdst];exact hj i (fP hilt false)
 have hAL:((pre.filter chain.contains).filter λk=>L.getD k false).length=(chain.filter λk=>L.getD k false).length:=by
  conv=>rhs;rw[hch]
  rw [List.filter_append,List.length_append];have:((i::post).filter chain.contains).filter (λk=>L.getD k false)=[]:=by
   rw[List.filter_eq_nil_iff];intro k hk;obtain⟨h1,h2⟩:=List.mem_filter.1 hk;rcases List.mem_cons.1 h1 with rfl|h1
   .rw[hiL'];simp
   .rw[hpostL k (List.mem_filter.2 ⟨h1,h2⟩)];simp
  rw[this];rfl
 by_cases hc:chain.contains i=true
 .rw [if_pos hc] at good;have hch':chain=pre.filter chain.contains++i::post.filter chain.contains:=by
   conv=>lhs;rw[hch,List.filter_cons,if_pos hc]
  have hA:∀k∈pre.filter chain.contains,L.getD k false=true:=λk hk=>waited k (hp.prs _ _ _ hch' k hk);have hcn:cnt chain pre=(chain.filter λk=>L.getD k false).length:=by
   rw[<- hAL,List.filter_eq_self.2 hA];rfl
  rw[hcn,<- hR.hh] at good;refine fin _ good ?_
  congr 1
  rw[<- hcn]
  conv=>rhs;rw[hch',List.filter_append,List.filter_cons,if_pos (fP hilt false)]
  have h1:(pre.filter chain.contains).filter (λk=>(L.setIfInBounds i true).getD k false)=pre.filter chain.contains:=List.filter_eq_self.2 λk hk=>getD_set_true (hA k hk);have h2:(post.filter chain.contains).filter (λk=>(L.setIfInBounds i true).getD k false)=[]:=by
   rw[List.filter_eq_nil_iff];intro k hk;have hki:i≠k:=λe=>hinpost (e▸(List.mem_filter.1 hk).1);rw[getD_set_ne false hki,hpostL k hk];simp
  rw[h1,h2];simp[cnt]
 .rw[if_neg hc] at good;have hone:=good (chain.filter λk=>L.getD k false).length (nK _ _ _ λk _ hk=>waited6 k hk) (by rw[<- hAL];exact List.length_filter_le _ _);rw[<- hR.hh] at hone;refine fin _ hone ?_;rw[hR.hh]
  congr 1
  refine tF _ _ _ λk hk=>?_;have hki:i≠k:=by rintro rfl;exact hc (by simpa using hk)
  rw[getD_set_ne false hki]
theorem zO(hT:bF P T)(gd:Gnd P X0)(hp:PlanAt ops n chain order)(hG:∀pre i post,order=pre++i::post->Good P T ops n chain V H (cD ops V t0 pre) (cnt chain pre) i)
 {Q:Exit->DS->Prop}(hK:Q .normal ⟨n,cD ops V t0 order,H (cnt chain order)⟩):∀(fuel:Nat) (L:Array Bool) (X:Ctx) (a:Act),RInv P X0 ops n chain V H t0 L X a ->
   (order.filter λk=>!L.getD k true).length<=fuel->wpAny P .any ops (zCc X0 Q) fuel L a X.w:=by
 have done:∀(L:Array Bool) (X:Ctx) (a:Act),RInv P X0 ops n chain V H t0 L X a->Region.ready .any ops L=[]->zCc X0 Q .normal a X.w:=by
  intro L X a hR hr;have hall:∀(post pre:List Nat),order=pre++post->(∀k∈pre,L.getD k false=true)->∀k∈order,L.getD k false=true:=by
   intro post
   induction post with
   | nil=>intro pre e h k hk;rw[e,List.append_nil] at hk;exact h k hk
   | cons i post ih =>
    intro pre e h;refine ih (pre++[i]) (by simpa using e) λk hk=>?_;rcases List.mem_append.1 hk with hk|hk
    .exact h k hk
    .rw [List.mem_singleton] at hk;subst hk;have hat:=hp.at_ pre k post e;simp only[SL,Bool.and_eq_true,List.all_eq_true] at hat;cases hl:L.getD k false with
     | true=>rfl
     | false =>
      have hk:k<ops.size:=by
       have:=hat.1.1.2;cases hok:ops[k]? with
       | none=>rw[hok] at this;cases this
       | some ok=>exact(Array.getElem?_eq_some_iff.1 hok).1
      have:k∈Region.ready .any ops L:=ZE (getD_in (by rw[hR.size];exact hk) hl) hk λm hm=>h m (by simpa using hat.1.1.1.1 m hm);rw[hr] at this;cases this
  have hL:=hall order [] rfl (λk hk=>by cases hk)
  refine⟨_,X,hK,rfl,?_,hR.hi,hR.hs,hR.sz,λj=>?_,hR.defs⟩
  .rw[hR.hh];simp only[cnt,hp.chn];rw[List.filter_eq_self.2];intro k hk;rw[<- hp.chn] at hk;exact hL k (List.mem_filter.1 hk).1
  .by_cases hk:∃k∈order,dM ops k=some j
   .obtain⟨k,hkp,hkd⟩:=hk;simp only;rw[kI hkd order t0 hkp λk' hk' hd'=>hp.uniq hkp hk' hkd hd'];exact hR.relA k j (hL k hkp) hkd
   .simp only;rw[gQ order t0 λk hkp hkd=>hk ⟨k,hkp,hkd⟩];refine hR.relB j λk _ hkd=>hk ⟨k,?_,hkd⟩;unfold dM at hkd;cases hok:ops[k]? with
    | none=>rw[hok] at hkd;cases hkd
    | some ok=>exact hp.all k ok hok
 have mem_count:∀(L:Array Bool) i,i∈Region.ready .any ops L->i∈order.filter λk=>!L.getD k true:=λL i hi=>by
  obtain⟨h1,⟨o,h2⟩,_⟩:=qL hi;exact List.mem_filter.2 ⟨hp.all i o h2,by rw[h1];rfl⟩
 intro fuel
 induction fuel with
 | zero =>
  intro L X a hR hc;have hr:Region.ready .any ops L=[]:=by
   cases hr:Region.ready .any ops L with
   | nil=>rfl
   | cons i l =>
    have:=mem_count L i (by rw[hr];exact List.mem_cons_self);rw[List.length_eq_zero_iff.1 (Nat.le_zero.1 hc)] at this;cases this
  exact⟨hr,done L X a hR hr⟩
 | succ fuel ih =>
  intro L X a hR hc;refine⟨λhr=>done L X a hR hr,λi hi=>vD hT gd hp hG hR hi λX' a' hR'=>ih _ X' a' hR' ?_⟩;have hm:=mem_count L i hi;obtain⟨hiL,⟨o,ho⟩,_⟩:=qL hi;obtain⟨p,q,e⟩:=List.append_of_mem hm;have hsub:(order.filter λk=>!(L.setIfInBounds i true).getD k true)=(order.filter λk=>!L.getD k true).filter λk=>!(k==i):=by
   rw[List.filter_filter];refine List.filter_congr λk hk=>?_;by_cases hki:i=k
   .subst hki;rw[fP (by rw[hR.size];exact(Array.getElem?_eq_some_iff.1 ho).1)];simp
   .rw[getD_set_ne true hki];have:(k==i)=false:=by simpa using λe=>hki e.symm
    rw[this];simp
  rw[hsub,e,List.filter_append,List.filter_cons];rw[e,List.length_append,List.length_cons] at hc;simp only[beq_self_eq_true,Bool.not_true,Bool.false_eq_true,if_false,List.length_append];have h1:=List.length_filter_le (λk=>!(k==i)) p;have h2:=List.length_filter_le (λk=>!(k==i)) q;omega
end plan
theorem swp_drawn(hT:bF P T)(hm:P.follows .mixedOrders=true){Q:Exit->DS->Prop}{s:DS}{id:Nat}{ops:Array Oper}(chain order:List Nat)(hp:tX ops s.n chain order=true)
  (h:vF P T ops s.n chain (λs'=>Q .normal s') order s.t [s.h]):SWP P X0 (.region id ops true) s Q:=by
 intro gd X a hh hi hs ht;have hp:=BH hp;obtain⟨V,H,h1,h2,h3⟩:=tD order s.t [s.h] 0 rfl hp.nodup h;simp only[Nat.zero_add] at h2 h3;have h0:=h1 0 (Nat.le_refl _);simp only[Nat.sub_self,List.getElem?_cons_zero,Option.some.injEq] at h0;refine wp_region_any hm (zO hT gd hp h2 h3 _ _ X.draw a ?_ ?_)
 .have hf:∀k,(Array.replicate ops.size false).getD k false=false:=getD_replicate_false _;refine⟨by simp,λi hi'=>?_,?_,XX hi,hs.trans hi (oP hi),ht.size,ht.defs,λk j hk=>?_,λj _=>(ht.rel j).step (oP hi)⟩
  .rw[hf] at hi';cases hi'
  .have:(chain.filter λe=>(Array.replicate ops.size false).getD e false)=[]:=by
    rw[List.filter_eq_nil_iff];intro k _;rw[hf];simp
   rw[this,List.length_nil,h0];exact hh
  .rw[hf] at hk;cases hk
 .refine Nat.le_trans (List.length_filter_le _ _) ?_;exact hp.len
end
section
variable {P:Program}{T:Tab}{X0:Ctx}
theorem aG(hT:bF P T)(hm:P.follows .mixedOrders=true){id:Nat}{l:List Oper}{n:Nat}{t:Fr}{h:aB}{Q:Exit->DS->Prop}(chain order:List Nat)(hp:tX l.toArray n chain order=true)(hd:vF P T l.toArray n chain (Q .normal) order t [h]):
  SWP P X0 (.region id l.toArray true) ⟨n,t,h⟩ Q:=W9.swp_drawn hT hm chain order hp hd
end
end
end Go.Dm.W9
end
section
namespace Go.Proofs.YtlbfnbldeefgmaaGreatDoor
open Go Go.Dm Go.Proofs Go.Proofs.Tryz
theorem zPz{i p s:Int}{f:Bool}:zGW prog 70 [.i .i64 i,.i .i64 p,.i .i64 s,.b f] [.i .i64 i,.i .i64 p,.i .i64 s,.b f] true:=by
 refine⟨by kernel_rfl,λvx vy w hx hy=>?_⟩
 have one:∀vx:List Value,[PV.i .i64 i,.i .i64 p,.i .i64 s,.b f].map iK=vx.map some->vx=[.int .i64 i,.int .i64 p,.int .i64 s,.bool f]:=λvx hx=>by
  match vx,hx with
  | [a,b,c,d],hx=>simp only[List.map_cons,List.map_nil,iK,List.cons.injEq,Option.some.injEq,and_true] at hx;rw[<- hx.1,<- hx.2.1,<- hx.2.2.1,<- hx.2.2.2]
  | [],hx=>simp at hx
  | [_],hx=>simp at hx
  | [_,_],hx=>simp at hx
  | [_,_,_],hx=>simp at hx
  | _::_::_::_::_::_,hx=>simp at hx
 rw[one vx hx,one vy hy];have u1:=Tryz.underlying3;have a1:=Tryz.isAgg3;have z1:=Tryz.sizeOf3;have u2:=Tryz.underlying4;have a2:=Tryz.isAgg4;have z2:=Tryz.sizeOf4;have hS:Tryz.prog.underlying 70=some (.struct (Tryz.prog.fieldsOf 70)):=by kernel_rfl
 have hp:Tryz.prog.stoodInHeld 70=false:=by kernel_rfl
 rw[show (10000:Nat)=9999+1 from rfl,run_equalIn_agg w 9999 70 _ _ hS hp]
 simp only[Program.fieldsOf,Tryz.underlying70]
 go_simp
theorem zN8{ti:TI}{h:aB}{i p s:Int}{f:Bool}{K:DV->aB->Prop}(hK:K (.c (.p (.b false))) h):
  zGw prog 70 ti h .neq (.agg [.p (.i .i64 i),.p (.i .i64 p),.p (.i .i64 s),.p (.b f)]) (.agg [.p (.i .i64 i),.p (.i .i64 p),.p (.i .i64 s),.p (.b f)]) K :=
 ZT [.i .i64 i,.i .i64 p,.i .i64 s,.b f] [.i .i64 i,.i .i64 p,.i .i64 s,.b f] _ rfl rfl rfl rfl zPz (.inr ⟨rfl,hK⟩)
theorem zPB{q:List UInt8}{n:Int}:zGW prog 73 [.s q,.i .i64 n] [.s q,.i .i64 n] true:=by
 refine⟨by kernel_rfl,λvx vy w hx hy=>?_⟩
 have one:∀vx:List Value,[PV.s q,.i .i64 n].map iK=vx.map some->vx=[.string ⟨q.toArray⟩,.int .i64 n]:=λvx hx=>by
  match vx,hx with
  | [a,b],hx=>simp only[List.map_cons,List.map_nil,iK,List.cons.injEq,Option.some.injEq,and_true] at hx;rw[<- hx.1,<- hx.2]
  | [],hx=>simp at hx
  | [_],hx=>simp at hx
  | _::_::_::_,hx=>simp at hx
 rw[one vx hx,one vy hy];have u1:=Tryz.underlying3;have a1:=Tryz.isAgg3;have z1:=Tryz.sizeOf3;have u2:=Tryz.underlying9;have a2:=Tryz.isAgg9;have z2:=Tryz.sizeOf9;have hS:Tryz.prog.underlying 73=some (.struct (Tryz.prog.fieldsOf 73)):=by kernel_rfl
 have hp:Tryz.prog.stoodInHeld 73=false:=by kernel_rfl
 rw[show (10000:Nat)=9999+1 from rfl,run_equalIn_agg w 9999 73 _ _ hS hp]
 simp only[Program.fieldsOf,Tryz.underlying73]
 go_simp
theorem zOi{ti:TI}{h:aB}{q:List UInt8}{n:Int}{K:DV->aB->Prop}(hK:K (.c (.p (.b false))) h):
  zGw prog 73 ti h .neq (.agg [.p (.s q),.p (.i .i64 n)]) (.agg [.p (.s q),.p (.i .i64 n)]) K :=
 ZT [.s q,.i .i64 n] [.s q,.i .i64 n] _ rfl rfl rfl rfl zPB (.inr ⟨rfl,hK⟩)
end Go.Proofs.YtlbfnbldeefgmaaGreatDoor
end
section
namespace Go.Dm
open Go
section
def Ctx.subC(X:Ctx)(tb:List Nat)(h0:aB):Ctx:=⟨X.w,X.S,λi=>X.G (rn tb 0 i),h0⟩
def zNd(tb:List Nat)(h h0:aB):Bool:=Nat.beq tb.length h0.length && (pG tb && (tb.all (λt=>Nat.blt t h.length) && h0.all (bH h0.length)))
section
variable {X:Ctx}{tb:List Nat}{h0:aB}
theorem KO(ht:CY tb X.h 0 h0):Pull X (X.subC tb h0) tb 0 :=
 ⟨rfl,rfl,λi db hd hl=>by
  have:=ht.at_ hd hl
  rwa[Nat.zero_add] at this,λi _=>rfl⟩
theorem zMA(hi:HInv X)(hb:zNd tb X.h h0=true)(ht:CY tb X.h 0 h0):HInv (X.subC tb h0):=by
 simp only[zNd,Bool.and_eq_true] at hb;obtain⟨b1,b2,b3,b4⟩:=hb;have b1:=Nat.eq_of_beq_eq_true b1;exact hi.pull (KO ht) b4 λi j db db' hd _ hd' _ he=>zFV (pH b2) (b1▸aH hd) (b1▸aH hd') he
theorem zJy(hi:HInv X)(hb:zNd tb X.h h0=true)(ht:CY tb X.h 0 h0){Z:Ctx}(h2:HInv Z)(h3:Step (X.subC tb h0) Z):
  ∃F:Ctx,F.w=Z.w/\F.h=gT tb X.h.length X.h tb Z.h/\HInv F/\Step X F/\Push Z F tb X.h.length/\h0.length<=Z.h.length:=by
 simp only[zNd,Bool.and_eq_true] at hb;obtain⟨b1,b2,b3,b4⟩:=hb;have b1:=Nat.eq_of_beq_eq_true b1;have hnd:=pH b2;have hlt:∀t∈tb,t<X.h.length:=λt hm=>Nat.blt_eq.mp (List.all_eq_true.1 b3 t hm)
 let Y:Ctx:=⟨X.w,X.S,λi=>X.G (rn tb 0 i),h0⟩
 have hp:Pull X Y tb 0:=KO ht;have hlen:h0.length<=Z.h.length:=h3.len;have hlen':tb.length<=Z.h.length:=by omega
 obtain⟨q1,q2,q3,q4⟩:=BI (tb:=tb) (N:=X.h.length) (ts:=tb) (zs:=Z.h) (h:=X.h) hlen' hnd hlt
 let F:Ctx:=⟨Z.w,Z.S,λj=>if j<X.h.length then (if j∈tb then Z.G (tb.idxOf j) else X.G j) else Z.G (tb.length+(j-X.h.length)),gT tb X.h.length X.h tb Z.h⟩
 have gat:∀i,i<tb.length->∃t,tb[i]?=some t/\rn tb X.h.length i=t/\t<X.h.length/\t∈tb/\tb.idxOf t=i:=λi hi=>by
  have hm:tb[i]∈tb:=List.getElem_mem hi;exact⟨tb[i],List.getElem?_eq_getElem hi,vW hi,hlt _ hm,hm,hnd.idxOf_getElem i hi⟩
 have hpu:Push Z F tb X.h.length:=by
  refine⟨rfl,rfl,λi hi=>?_,λi hi=>?_,λi hi=>?_⟩
  .show _<(gT tb X.h.length X.h tb Z.h).length;rw[q1];rcases Nat.lt_or_ge i tb.length with hlt2|hge
   .obtain⟨t,_,e2,e3,_⟩:=gat i hlt2;rw[e2];omega
   .rw[QE hge];omega
  .rcases Nat.lt_or_ge i tb.length with hlt2|hge
   .obtain⟨t,e1,e2,_⟩:=gat i hlt2;rw[e2];exact q3 i t e1
   .rw[QE hge];have:=q4 (i-tb.length);rw[show tb.length+(i-tb.length)=i by omega] at this
    exact this
  .rcases Nat.lt_or_ge i tb.length with hlt2|hge
   .obtain⟨t,_,e2,e3,e4,e5⟩:=gat i hlt2;rw[e2];show (if t<X.h.length then (if t∈tb then Z.G (tb.idxOf t) else X.G t) else _)=_
    rw[if_pos e3,if_pos e4,e5]
   .rw[QE hge];show (if X.h.length+(i-tb.length)<X.h.length then _ else Z.G (tb.length+(X.h.length+(i-tb.length)-X.h.length)))=_
    rw[if_neg (by omega)]
    congr 1;omega
 have fo:∀j,j<X.h.length->j ∉ tb->F.h[j]?=X.h[j]?/\F.G j=X.G j:=λj hj hn=>⟨q2 j hj hn,by
  show (if j<X.h.length then (if j∈tb then Z.G (tb.idxOf j) else X.G j) else _)=_
  rw[if_pos hj,if_neg hn]⟩
 have fi:∀j,j<F.h.length->(j<X.h.length/\j ∉ tb)∨∃i,i<Z.h.length/\j=rn tb X.h.length i:=λj hj=>by
  have hjl:j<X.h.length+(Z.h.length-tb.length):=by rw[<- q1];exact hj
  by_cases hx:j<X.h.length
  .by_cases hm:j∈tb
   .have hx:=List.idxOf_lt_length_iff.2 hm;exact .inr ⟨tb.idxOf j,by omega,by rw[vW hx,List.getElem_idxOf]⟩
   .exact .inl ⟨hx,hm⟩
  .exact .inr ⟨tb.length+(j-X.h.length),by omega,by rw[QE (by omega)];omega⟩
 have yx:∀(k:Nat) (db:DB),Y.h[k]?=some db->db.live=true->X.h[rn tb 0 k]?=some (db.rn tb 0)/\rn tb 0 k∈tb:=λk db hd hl=>by
  have hk:k<tb.length:=by have:=aH hd;simp only[Y] at this;omega
  exact⟨hp.h k db hd hl,by rw[vW hk];exact List.getElem_mem hk⟩
 have away:∀(j:Nat) (db:DB) (g:Nat × Nat),X.h[j]?=some db->db.live=true->X.G j=some g->j ∉ tb->Z.w.heap[g.1]?=X.w.heap[g.1]? := λj db g hd hl hg hn=>by
  refine h3.frame g.1 (hi.block_lt hd hl hg) λk db' g' hd' hl' hf' hg' e=>?_;obtain⟨e1,e2⟩:=yx k db' hd' hl';exact hn ((hi.inj (rn tb 0 k) _ j db g' g e1 (by rw[DB.rn_live];exact hl') (by rw[DB.rn_fix];exact hf') hd hl hg' hg e)▸e2)
 have hst:Step X F:=by
  refine⟨h3.size,h3.os,h3.tape,h3.output,h3.kept,?_,λj db' hj hd hl=>?_,λb hb hno=>?_,λj db g hd hl hf hg=>?_,λb hb=>?_⟩
  .show _<=(gT tb X.h.length X.h tb Z.h).length;rw[q1];omega
  .by_cases hm:j∈tb
   .have hx:=List.idxOf_lt_length_iff.2 hm;have hj':j=rn tb X.h.length (tb.idxOf j):=by rw[vW hx,List.getElem_idxOf]
    have hj0:j=rn tb 0 (tb.idxOf j):=by rw[vW hx,List.getElem_idxOf]
    rw[hj'] at hd;obtain⟨db1,e1,e2⟩:=hpu.inv (i:=tb.idxOf j) (by omega) hd;subst e2;rw[DB.rn_live] at hl;obtain⟨db0,k1,k2,k3,k4⟩:=h3.ids (tb.idxOf j) db1 (by show _<h0.length;omega) e1 hl;obtain⟨e3,_⟩:=yx _ _ k1 k2.live;rw[<- hj0] at e3;have hG:Z.G (tb.idxOf j)=X.G j:=by rw[k3];show X.G (rn tb 0 (tb.idxOf j))=_;rw[<- hj0]
    refine⟨_,e3,?_,?_,λg hg=>k4 g ?_⟩
    .exact k2.rn_lr
    .have e5:=hpu.G (tb.idxOf j) (by omega);rw[<- hj'] at e5;rw[e5,hG]
    .show X.G (rn tb 0 (tb.idxOf j))=_;rw[<- hj0];exact hg
   .obtain⟨e1,e2⟩:=fo j hj hm;rw[e1] at hd;refine⟨db',hd,cG.refl hl,e2,λg hg=>?_⟩;rw[show F.w.heap[g.1]?=X.w.heap[g.1]? from away j db' g hd hl hg hm]
    exact(hi.blk j db' hd).same hl g hg
  .exact h3.frame b hb λk db g hd hl hf hg=>by
    obtain⟨e1,_⟩:=yx k db hd hl;exact hno _ _ g e1 (by rw[DB.rn_live];exact hl) (by rw[DB.rn_fix];exact hf) hg
  .rcases fi j (aH hd) with⟨f1,f2⟩|⟨i,f1,rfl⟩
   .obtain⟨e1,e2⟩:=fo j f1 f2;rw[e1] at hd;rw[e2] at hg;exact .inr ⟨j,db,g,hd,hl,hf,hg,rfl⟩
   .obtain⟨db1,e1,rfl⟩:=hpu.inv f1 hd;rw[hpu.G _ f1] at hg;rw[DB.rn_live] at hl;rw[DB.rn_fix] at hf;rcases h3.mine i db1 g e1 hl hf hg with h|⟨k,db0,g0,k1,k2,k3,k4,k5⟩
    .exact .inl h
    .obtain⟨e3,_⟩:=yx k db0 k1 k2;exact .inr ⟨_,_,g0,e3,by rw[DB.rn_live];exact k2,by rw[DB.rn_fix];exact k3,k4,k5⟩
  .rcases h3.upper b hb with h|h|⟨k,db0,g0,k1,k2,k4,k5⟩
   .exact .inl h
   .exact .inr (.inl h)
   .obtain⟨e3,_⟩:=yx k db0 k1 k2;exact .inr (.inr ⟨_,_,g0,e3,by rw[DB.rn_live];exact k2,k4,k5⟩)
 have noS:∀(j:Nat) (db:DB) (g:Nat × Nat),X.h[j]?=some db->db.live=true->db.fix=false->X.G j=some g->j ∉ tb->¬ Z.S g.1:=λj db g hd hl hf hg hn hS=>by
  rcases h3.upper g.1 hS with h|h|⟨k,db0,g0,k1,k2,k4,k5⟩
  .exact(hi.own j db g hd hl hg).1 hf h
  .have h6:=hi.block_lt hd hl hg;have h7:(X.subC tb h0).w.heap.size=X.w.heap.size:=rfl;omega
  .obtain⟨e1,e2⟩:=yx k db0 k1 k2;exact hn ((hi.inj j db (rn tb 0 k) _ g g0 hd hl hf e1 (by rw[DB.rn_live];exact k2) hg k4 k5.symm)▸e2)
 have hiF:HInv F:=by
  refine⟨h2.slt,λj db hd=>?_,λj db g hd hl hg=>?_,λj db j' db' g g' hd hl hf hd' hl' hg hg' he=>?_⟩
  .rcases fi j (aH hd) with⟨f1,f2⟩|⟨i,f1,rfl⟩
   .obtain⟨e1,e2⟩:=fo j f1 f2;rw[e1] at hd;by_cases hl:db.live=true
    .exact(hi.blk j db hd).move hst e2 λg hg=>away j db g hd hl hg f2
    .cases db<;>simp_all[DB.live,eC]
   .obtain⟨db1,e1,rfl⟩:=hpu.inv f1 hd;exact eC.push hpu f1 (h2.blk i db1 e1)
  .rcases fi j (aH hd) with⟨f1,f2⟩|⟨i,f1,rfl⟩
   .obtain⟨e1,e2⟩:=fo j f1 f2;rw[e1] at hd;rw[e2] at hg;exact⟨λhf=>noS j db g hd hl hf hg f2,λhf=>(h3.kept _ ((hi.own j db g hd hl hg).2 hf)).1⟩
   .obtain⟨db1,e1,rfl⟩:=hpu.inv f1 hd;rw[hpu.G _ f1] at hg;rw[DB.rn_live] at hl;rw[DB.rn_fix];exact h2.own i db1 g e1 hl hg
  ·
   have cross:∀(j:Nat) (db:DB) (g:Nat × Nat) (i:Nat) (db1:DB) (g1:Nat × Nat),X.h[j]?=some db->db.live=true->X.G j=some g->j ∉ tb->Z.h[i]?=some db1->db1.live=true->Z.G i=some g1->g.1=g1.1->(db.fix=false∨db1.fix=false)->False:=by
    intro j db g i db1 g1 k1 k2 k3 k4 k5 k6 k7 k8 k9;by_cases hf1:db1.fix=false
    .rcases h3.mine i db1 g1 k5 k6 hf1 k7 with h|⟨k,db0,g0,m1,m2,m3,m4,m5⟩
     .have h6:=hi.block_lt k1 k2 k3;have h7:(X.subC tb h0).w.heap.size=X.w.heap.size:=rfl;omega
     .obtain⟨e1,e2⟩:=yx k db0 m1 m2;exact k4 ((hi.inj (rn tb 0 k) _ j db g0 g e1 (by rw[DB.rn_live];exact m2) (by rw[DB.rn_fix];exact m3) k1 k2 m4 k3 (m5.trans k8.symm))▸e2)
    .have hS:=(h2.own i db1 g1 k5 k6 k7).2 (by simpa using hf1);rw[<- k8] at hS;rcases k9 with k9|k9
     .exact noS j db g k1 k2 k9 k3 k4 hS
     .exact hf1 k9
   rcases fi j (aH hd) with⟨f1,f2⟩|⟨i,f1,rfl⟩<;>rcases fi j' (aH hd') with⟨f1',f2'⟩|⟨i',f1',rfl⟩
   .obtain⟨e1,e2⟩:=fo j f1 f2;obtain⟨e1',e2'⟩:=fo j' f1' f2';rw[e1] at hd;rw[e2] at hg;rw[e1'] at hd';rw[e2'] at hg';exact hi.inj j db j' db' g g' hd hl hf hd' hl' hg hg' he
   .obtain⟨e1,e2⟩:=fo j f1 f2;rw[e1] at hd;rw[e2] at hg;obtain⟨db1,e3,rfl⟩:=hpu.inv f1' hd';rw[hpu.G _ f1'] at hg';rw[DB.rn_live] at hl';exact(cross j db g i' db1 g' hd hl hg f2 e3 hl' hg' he (.inl hf)).elim
   .obtain⟨e1',e2'⟩:=fo j' f1' f2';rw[e1'] at hd';rw[e2'] at hg';obtain⟨db1,e3,rfl⟩:=hpu.inv f1 hd;rw[hpu.G _ f1] at hg;rw[DB.rn_live] at hl;rw[DB.rn_fix] at hf;exact(cross j' db' g' i db1 g hd' hl' hg' f2' e3 hl hg he.symm (.inr hf)).elim
   .obtain⟨db1,e3,rfl⟩:=hpu.inv f1 hd;rw[hpu.G _ f1] at hg;rw[DB.rn_live] at hl;rw[DB.rn_fix] at hf;obtain⟨db2,e4,rfl⟩:=hpu.inv f1' hd';rw[hpu.G _ f1'] at hg';rw[DB.rn_live] at hl';rw[h2.inj i db1 i' db2 g g' e3 hl hf e4 hl' hg hg' he]
 exact⟨F,rfl,rfl,hiF,hst,hpu,hlen⟩
end
def DS.rnF(s:DS)(tb:List Nat)(h:aB):DS:=⟨s.n,s.t.map λp=>(p.1,p.2.rn tb h.length),gT tb h.length h tb s.h⟩
theorem YN(tb:List Nat)(N:Nat):∀(t:Fr) (i:Nat),look (t.map λp=>(p.1,p.2.rn tb N)) i=(look t i).rn tb N
 | [],_=>rfl
 | p::t,i=>by
  simp only[List.map_cons,look];split
  .rfl
  .exact YN tb N t i
end
end Go.Dm
end
