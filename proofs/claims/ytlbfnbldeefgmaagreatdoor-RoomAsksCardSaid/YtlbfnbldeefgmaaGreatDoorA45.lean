/- Part 46 of the proof of roomAsks_card, set without needless blanks. No condition. -/
import Derived.Test.YtlbfnbldeefgmaaGreatDoorA43
set_option linter.all false
section
namespace Go.Dm.W9
open Go Go.Dm
section
variable {P:Program} {T:Tab} {X0:Ctx}
def lG (ops:Array Oper):List Nat→Bool
 | []=>true
 | e::es=>es.all (fun e'=>eO ops 9 e' e) && lG ops es
def PR (ops:Array Oper) (chain:List Nat) (i:Nat) (pre post:List Nat):Bool :=
 (lU ops i).all pre.contains &&
 (post.all fun e=>!chain.contains e || eO ops 9 e i) &&
 (match ops[i]? with
  | some o=>(o.looksAt ops).all fun j=>(pre.all fun k=>!(dD ops k == some j) || eO ops 9 i k) && (post.all fun k=>!(dD ops k == some j) || eO ops 9 k i)
  | none=>false) &&
 (match dD ops i with
  | some j=>post.all fun k=>!(dD ops k == some j)
  | none=>true) &&
 !post.contains i
def ED (ops:Array Oper) (chain:List Nat):List Nat→List Nat→Bool
 | _,[]=>true
 | pre,i::post=>PR ops chain i pre post && ED ops chain (pre++[i]) post
def rS (ops:Array Oper) (n:Nat) (chain order:List Nat):Bool :=
 decide (order.length≤ops.size) && ((List.range ops.size).all fun i=>order.contains i && match dD ops i with|some x=>decide (x<n)|none=>true) && (order.filter chain.contains == chain) && lG ops chain && ED ops chain [] order
theorem qN {ops:Array Oper} {chain:List Nat}:∀ (l pre0:List Nat),ED ops chain pre0 l=true→∀ pre i post,l=pre++i::post→PR ops chain i (pre0++pre) post=true
 | [],_,_,pre,i,post,e=>by simp at e
 | x::l,pre0,h,pre,i,post,e=>by
  simp only [ED,Bool.and_eq_true] at h;cases pre with
  | nil =>
   simp only [List.nil_append,List.cons.injEq] at e;obtain ⟨rfl,rfl⟩:=e;simpa using h.1
  | cons y pre =>
   simp only [List.cons_append,List.cons.injEq] at e;obtain ⟨rfl,e⟩:=e;have:=qN l (pre0++[x]) h.2 pre i post e;simpa using this
structure PlanAt (ops:Array Oper) (n:Nat) (chain order:List Nat):Prop where
 all:∀ i o,ops[i]? = some o→i∈order
 dlt:∀ i x,dD ops i=some x→x<n
 chn:order.filter chain.contains=chain
 prs:∀ A e B,chain=A++e::B→∀ k∈A,eO ops 9 e k=true
 len:order.length≤ops.size
 at_:∀ pre i post,order=pre++i::post→PR ops chain i pre post=true
theorem kQ {ops:Array Oper}:∀ (l:List Nat),lG ops l=true→∀ A e B,l=A++e::B→∀ k∈A,eO ops 9 e k=true
 | [],_,A,e,B,h,_,_=>by simp at h
 | x::l,hc,A,e,B,h,k,hk=>by
  simp only [lG,Bool.and_eq_true,List.all_eq_true] at hc;cases A with
  | nil=>cases hk
  | cons y A =>
   simp only [List.cons_append,List.cons.injEq] at h;obtain ⟨rfl,rfl⟩:=h;rcases List.mem_cons.1 hk with rfl|hk
   ·exact hc.1 e (by simp)
   ·exact kQ _ hc.2 A e B rfl k hk
theorem zB {ops:Array Oper} {n:Nat} {chain order:List Nat} (h:rS ops n chain order=true):PlanAt ops n chain order:=by
 simp only [rS,Bool.and_eq_true,List.all_eq_true,List.mem_range,beq_iff_eq,decide_eq_true_eq] at h;obtain ⟨⟨⟨⟨h0,h1⟩,h2⟩,h3⟩,h4⟩:=h;refine ⟨fun i o hi=>?_,fun i x hx=>?_,h2,kQ _ h3,h0,fun pre i post e=>by simpa using qN order [] h4 pre i post e⟩
 ·have:=(h1 i (Array.getElem?_eq_some_iff.1 hi).1).1;simpa using this
 ·have hi:i<ops.size:=by
   rcases Nat.lt_or_ge i ops.size with h|h
   ·exact h
   ·simp [dD,Array.getElem?_eq_none h] at hx
  have:=(h1 i hi).2;rw [hx] at this;simpa using this
section plan
variable {ops:Array Oper} {n:Nat} {chain order:List Nat}
theorem PlanAt.uniq (hp:PlanAt ops n chain order) {k k':Nat} {j:Tmp} (hk:k∈order) (hk':k'∈order) (h:dD ops k=some j) (h':dD ops k'=some j):k'=k:=by
 obtain ⟨pre,post,e⟩:=List.append_of_mem hk;rw [e] at hk';have key:∀ x y p q,order=p++x::q→dD ops x=some j→y∈q→dD ops y=some j→False:=by
  intro x y p q e hx hy hy';have:=hp.at_ p x q e;simp only [PR,Bool.and_eq_true,hx,List.all_eq_true,Bool.not_eq_true',beq_eq_false_iff_ne] at this;exact this.1.2 y hy hy'
 rcases List.mem_append.1 hk' with hk'|hk'
 ·obtain ⟨p2,q2,e2⟩:=List.append_of_mem hk';exact (key k' k p2 (q2++k::post) (by rw [e,e2];simp) h' (by simp) h).elim
 ·rcases List.mem_cons.1 hk' with rfl|hk'
  ·rfl
  ·exact (key k k' pre post e h hk' h').elim
theorem PlanAt.nodup (hp:PlanAt ops n chain order):order.Nodup:=by
 suffices h:∀ (l pre:List Nat),order=pre++l→l.Nodup from h order [] rfl
 intro l
 induction l with
 | nil=>intro _ _;exact List.nodup_nil
 | cons i l ih =>
  intro pre e;refine List.nodup_cons.2 ⟨fun hi=>?_,ih (pre++[i]) (by simpa using e)⟩;have:=hp.at_ pre i l e;simp only [PR,Bool.and_eq_true,Bool.not_eq_true'] at this;have h2:=this.2;simp at h2;exact h2 hi
theorem zD {a:Act} {o:Option Tmp} {v:Value} {j:Nat} (h:o≠some j):(a.put o v).tmps.getD j undef=a.tmps.getD j undef:=by
 cases o with
 | none=>rfl
 | some i =>
  have hij:i≠j:=fun e=>h (by rw [e]);simp only [Act.put];rw [Array.getD_eq_getD_getElem?,Array.getElem?_setIfInBounds_ne hij,← Array.getD_eq_getD_getElem?]
theorem GM {a:Act} {v:Value} {j:Nat} (h:j<a.tmps.size):(a.put (some j) v).tmps.getD j undef=v:=by
 simp only [Act.put];rw [Array.getD_eq_getD_getElem?,Array.getElem?_setIfInBounds_self_of_lt h];rfl
theorem GO {a:Act} {o:Option Tmp} {v:Value}:(a.put o v).tmps.size=a.tmps.size:=by cases o <;> simp [Act.put]
theorem GL {a:Act} {o:Option Tmp} {v:Value}:(a.put o v).defers=a.defers:=by cases o <;> rfl
theorem tF (hT:bD P T) (gd:Gnd P X0) (hp:PlanAt ops n chain order) {V:Nat→DV} {H:Nat→aC} {t0:Fr} (hG:∀ pre i post,order=pre++i::post→Good P T ops n chain V H (bX ops V t0 pre) (cnt chain pre) i)
  {L:Array Bool} {X:Ctx} {a:Act} {Q:Exit→Act→World→Prop} (hR:RInv P X0 ops n chain V H t0 L X a) {i:Nat} (hi:i∈Region.ready .any ops L) {next:Act→World→Prop}
  (hn:∀ X' a',RInv P X0 ops n chain V H t0 (L.setIfInBounds i true) X' a'→next a' X'.w):wpOp P ops Q i next a X.w:=by
 obtain ⟨hiL,⟨o,ho⟩,hpr⟩:=oU hi;have hiL':L.getD i false=false:=getD_both hiL;have hilt:i<L.size:=by rw [hR.size];exact (Array.getElem?_eq_some_iff.1 ho).1
 obtain ⟨pre,post,e⟩:=List.append_of_mem (hp.all i o ho);have hat:=hp.at_ pre i post e;simp only [PR,ho,Bool.and_eq_true,List.all_eq_true,Bool.or_eq_true,Bool.not_eq_true'] at hat;obtain ⟨⟨⟨⟨_,hlater⟩,hlook⟩,_⟩,hnp⟩:=hat;have hdst:dD ops i=o.dst:=by simp [dD,ho]
 have hinpost:i ∉ post:=by simpa using hnp
 have waiting:∀ k,L.getD k false=true→eO ops 9 k i=false:=fun k hk=>by
  cases hw:eO ops 9 k i with
  | false=>rfl
  | true =>
   have:=pA hR.closed 9 k i (hR.closed k hk) hw;rw [hiL'] at this;cases this
 have waited:∀ k,eO ops 9 i k=true→L.getD k false=true:=fun k hk=>pA hR.closed 9 i k hpr hk;have waited6:∀ k,eO ops 6 i k=true→L.getD k false=true:=fun k hk=>pA hR.closed 6 i k hpr hk;have hch:chain=pre.filter chain.contains++((i::post).filter chain.contains):=by
  conv=>lhs;rw [← hp.chn,e,List.filter_append]
 have hpostL:∀ k∈post.filter chain.contains,L.getD k false=false:=fun k hk=>by
  obtain ⟨h1,h2⟩:=List.mem_filter.1 hk;cases hl:L.getD k false with
  | false=>rfl
  | true =>
   rcases hlater k h1 with h|h
   ·rw [h2] at h;cases h
   ·rw [waiting k hl] at h;cases h
 obtain ⟨o',ho',good⟩:=hG pre i post e;rw [ho] at ho';cases ho';have tin:∀ h,X.h=h→TInv X ⟨n,keep (o.looksAt ops) (bX ops V t0 pre),h⟩ a:=by
  intro h _;refine ⟨hR.sz,fun j=>?_,hR.defs⟩;simp only [nL];split
  ·rename_i hj;have hj':j∈o.looksAt ops:=by simpa using hj
   obtain ⟨l1,l2⟩:=hlook j hj';by_cases hk:∃ k∈pre,dD ops k=some j
   ·obtain ⟨k,hkp,hkd⟩:=hk;have hkL:L.getD k false=true:=by
     rcases l1 k hkp with h|h
     ·rw [hkd] at h;simp at h
     ·exact waited k h
    rw [iQ hkd pre t0 hkp fun k' hk' hd'=>hp.uniq (e▸List.mem_append_left _ hkp) (e▸List.mem_append_left _ hk') hkd hd'];exact hR.relA k j hkL hkd
   ·rw [fO pre t0 fun k hkp hkd=>hk ⟨k,hkp,hkd⟩];refine hR.relB j fun k hkL hkd=>?_;have hko:k∈order:=by
     unfold dD at hkd;cases hok:ops[k]? with
     | none=>rw [hok] at hkd;cases hkd
     | some ok=>exact hp.all k ok hok
    rw [e] at hko;rcases List.mem_append.1 hko with h|h
    ·exact hk ⟨k,h,hkd⟩
    ·rcases List.mem_cons.1 h with rfl|h
     ·rw [hiL'] at hkL;cases hkL
     ·rcases l2 k h with h'|h'
      ·rw [hkd] at h';simp at h'
      ·rw [waiting k hkL] at h';cases h'
  ·exact True.intro
 have fin:∀ h',One P T ops n o (bX ops V t0 pre) X.h (V i) h'→h'=H (chain.filter fun k=>(L.setIfInBounds i true).getD k false).length→wpOp P ops Q i next a X.w:=by
  intro h' hone hh';have:=DM (Q:=Q) (next:=next) hT (s:=⟨n,keep (o.looksAt ops) (bX ops V t0 pre),X.h⟩) rfl hR.hi (gd.step hR.hs) (tin _ rfl) hone ?_
  ·unfold wpOp;simp only [ho];split
   ·rename_i hw;rw [if_pos hw] at this;exact .inl this
   ·rename_i hw;rw [if_neg hw] at this;exact this
  ·intro d v X' hk hi' hs' hr;obtain ⟨k1,k2⟩:=hk;have k1':X'.h=h':=by rw [← k1];unfold DS.put;split <;> (try split) <;> rfl
   refine hn X' _ ⟨by simp [hR.size],fun x hx k hk=>?_,by rw [k1',hh'],hi',hR.hs.trans hR.hi hs',by rw [GO];exact hR.sz,by rw [GL];exact hR.defs,fun k j hk hkd=>?_,fun j hj=>?_⟩
   ·rcases gP hx with rfl|hx
    ·exact getD_set_true (hpr k hk)
    ·exact getD_set_true (hR.closed x hx k hk)
   ·rcases gP hk with rfl|hk
    ·rw [hdst] at hkd;have hjn:j<n:=hp.dlt k j (by rw [hdst];exact hkd);simp only [hkd,DS.put,if_pos hjn,res,look,if_true] at k2;rw [hkd,GM (by rw [hR.sz];exact hjn),← k2];exact hr
    ·rw [zD]
     ·exact (hR.relA k j hk hkd).step hs'
     ·intro hd;have:k=i:=hp.uniq (hp.all i o ho) (by
       unfold dD at hkd;cases hok:ops[k]? with
       | none=>rw [hok] at hkd;cases hkd
       | some ok=>exact hp.all k ok hok) (hdst.trans hd) hkd
      rw [this,hiL'] at hk;cases hk
   ·rw [zD]
    ·exact (hR.relB j fun k hk=>hj k (getD_set_true hk)).step hs'
    ·rw [← hdst];exact hj i (eT hilt false)
 have hAL:((pre.filter chain.contains).filter fun k=>L.getD k false).length=(chain.filter fun k=>L.getD k false).length:=by
  conv=>rhs;rw [hch]
  rw [List.filter_append,List.length_append];have:((i::post).filter chain.contains).filter (fun k=>L.getD k false)=[]:=by
   rw [List.filter_eq_nil_iff];intro k hk;obtain ⟨h1,h2⟩:=List.mem_filter.1 hk;rcases List.mem_cons.1 h1 with rfl|h1
   ·rw [hiL'];simp
   ·rw [hpostL k (List.mem_filter.2 ⟨h1,h2⟩)];simp
  rw [this];rfl
 by_cases hc:chain.contains i=true
 ·rw [if_pos hc] at good;have hch':chain=pre.filter chain.contains++i::post.filter chain.contains:=by
   conv=>lhs;rw [hch,List.filter_cons,if_pos hc]
  have hA:∀ k∈pre.filter chain.contains,L.getD k false=true:=fun k hk=>waited k (hp.prs _ _ _ hch' k hk);have hcn:cnt chain pre=(chain.filter fun k=>L.getD k false).length:=by
   rw [← hAL,List.filter_eq_self.2 hA];rfl
  rw [hcn,← hR.hh] at good;refine fin _ good ?_
  congr 1
  rw [← hcn]
  conv=>rhs;rw [hch',List.filter_append,List.filter_cons,if_pos (eT hilt false)]
  have h1:(pre.filter chain.contains).filter (fun k=>(L.setIfInBounds i true).getD k false)=pre.filter chain.contains:=List.filter_eq_self.2 fun k hk=>getD_set_true (hA k hk);have h2:(post.filter chain.contains).filter (fun k=>(L.setIfInBounds i true).getD k false)=[]:=by
   rw [List.filter_eq_nil_iff];intro k hk;have hki:i≠k:=fun e=>hinpost (e▸(List.mem_filter.1 hk).1);rw [getD_set_ne false hki,hpostL k hk];simp
  rw [h1,h2];simp [cnt]
 ·rw [if_neg hc] at good;have hone:=good (chain.filter fun k=>L.getD k false).length (lM _ _ _ fun k _ hk=>waited6 k hk) (by rw [← hAL];exact List.length_filter_le _ _);rw [← hR.hh] at hone;refine fin _ hone ?_;rw [hR.hh]
  congr 1
  refine rB _ _ _ fun k hk=>?_;have hki:i≠k:=by rintro rfl;exact hc (by simpa using hk)
  rw [getD_set_ne false hki]
theorem xO (hT:bD P T) (gd:Gnd P X0) (hp:PlanAt ops n chain order) {V:Nat→DV} {H:Nat→aC} {t0:Fr} (hG:∀ pre i post,order=pre++i::post→Good P T ops n chain V H (bX ops V t0 pre) (cnt chain pre) i)
  {Q:Exit→DS→Prop} (hK:Q .normal ⟨n,bX ops V t0 order,H (cnt chain order)⟩):∀ (fuel:Nat) (L:Array Bool) (X:Ctx) (a:Act),RInv P X0 ops n chain V H t0 L X a →
   (order.filter fun k=>!L.getD k true).length≤fuel→wpAny P .any ops (zAT X0 Q) fuel L a X.w:=by
 have done:∀ (L:Array Bool) (X:Ctx) (a:Act),RInv P X0 ops n chain V H t0 L X a→Region.ready .any ops L=[]→zAT X0 Q .normal a X.w:=by
  intro L X a hR hr;have hall:∀ (post pre:List Nat),order=pre++post→(∀ k∈pre,L.getD k false=true)→∀ k∈order,L.getD k false=true:=by
   intro post
   induction post with
   | nil=>intro pre e h k hk;rw [e,List.append_nil] at hk;exact h k hk
   | cons i post ih =>
    intro pre e h;refine ih (pre++[i]) (by simpa using e) fun k hk=>?_;rcases List.mem_append.1 hk with hk|hk
    ·exact h k hk
    ·rw [List.mem_singleton] at hk;subst hk;have hat:=hp.at_ pre k post e;simp only [PR,Bool.and_eq_true,List.all_eq_true] at hat;cases hl:L.getD k false with
     | true=>rfl
     | false =>
      have hk:k<ops.size:=by
       have:=hat.1.1.2;cases hok:ops[k]? with
       | none=>rw [hok] at this;cases this
       | some ok=>exact (Array.getElem?_eq_some_iff.1 hok).1
      have:k∈Region.ready .any ops L:=WU (getD_in (by rw [hR.size];exact hk) hl) hk fun m hm=>h m (by simpa using hat.1.1.1.1 m hm);rw [hr] at this;cases this
  have hL:=hall order [] rfl (fun k hk=>by cases hk)
  refine ⟨_,X,hK,rfl,?_,hR.hi,hR.hs,hR.sz,fun j=>?_,hR.defs⟩
  ·rw [hR.hh];simp only [cnt,hp.chn];rw [List.filter_eq_self.2];intro k hk;rw [← hp.chn] at hk;exact hL k (List.mem_filter.1 hk).1
  ·by_cases hk:∃ k∈order,dD ops k=some j
   ·obtain ⟨k,hkp,hkd⟩:=hk;simp only;rw [iQ hkd order t0 hkp fun k' hk' hd'=>hp.uniq hkp hk' hkd hd'];exact hR.relA k j (hL k hkp) hkd
   ·simp only;rw [fO order t0 fun k hkp hkd=>hk ⟨k,hkp,hkd⟩];refine hR.relB j fun k _ hkd=>hk ⟨k,?_,hkd⟩;unfold dD at hkd;cases hok:ops[k]? with
    | none=>rw [hok] at hkd;cases hkd
    | some ok=>exact hp.all k ok hok
 have mem_count:∀ (L:Array Bool) i,i∈Region.ready .any ops L→i∈order.filter fun k=>!L.getD k true:=fun L i hi=>by
  obtain ⟨h1,⟨o,h2⟩,_⟩:=oU hi;exact List.mem_filter.2 ⟨hp.all i o h2,by rw [h1];rfl⟩
 intro fuel
 induction fuel with
 | zero =>
  intro L X a hR hc;have hr:Region.ready .any ops L=[]:=by
   cases hr:Region.ready .any ops L with
   | nil=>rfl
   | cons i l =>
    have:=mem_count L i (by rw [hr];exact List.mem_cons_self);rw [List.length_eq_zero_iff.1 (Nat.le_zero.1 hc)] at this;cases this
  exact ⟨hr,done L X a hR hr⟩
 | succ fuel ih =>
  intro L X a hR hc;refine ⟨fun hr=>done L X a hR hr,fun i hi=>tF hT gd hp hG hR hi fun X' a' hR'=>ih _ X' a' hR' ?_⟩;have hm:=mem_count L i hi;obtain ⟨hiL,⟨o,ho⟩,_⟩:=oU hi;obtain ⟨p,q,e⟩:=List.append_of_mem hm;have hsub:(order.filter fun k=>!(L.setIfInBounds i true).getD k true)=(order.filter fun k=>!L.getD k true).filter fun k=>!(k == i):=by
   rw [List.filter_filter];refine List.filter_congr fun k hk=>?_;by_cases hki:i=k
   ·subst hki;rw [eT (by rw [hR.size];exact (Array.getElem?_eq_some_iff.1 ho).1)];simp
   ·rw [getD_set_ne true hki];have:(k == i)=false:=by simpa using fun e=>hki e.symm
    rw [this];simp
  rw [hsub,e,List.filter_append,List.filter_cons];rw [e,List.length_append,List.length_cons] at hc;simp only [beq_self_eq_true,Bool.not_true,Bool.false_eq_true,if_false,List.length_append];have h1:=List.length_filter_le (fun k=>!(k == i)) p;have h2:=List.length_filter_le (fun k=>!(k == i)) q;omega
end plan
theorem swp_drawn (hT:bD P T) (hm:P.follows .mixedOrders=true) {Q:Exit→DS→Prop} {s:DS} {id:Nat} {ops:Array Oper} (chain order:List Nat) (hp:rS ops s.n chain order=true)
  (h:tG P T ops s.n chain (fun s'=>Q .normal s') order s.t [s.h]):SWP P X0 (.region id ops true) s Q:=by
 intro gd X a hh hi hs ht;have hp:=zB hp;obtain ⟨V,H,h1,h2,h3⟩:=qZ order s.t [s.h] 0 rfl hp.nodup h;simp only [Nat.zero_add] at h2 h3;have h0:=h1 0 (Nat.le_refl _);simp only [Nat.sub_self,List.getElem?_cons_zero,Option.some.injEq] at h0;refine wp_region_any hm (xO hT gd hp h2 h3 _ _ X.draw a ?_ ?_)
 ·have hf:∀ k,(Array.replicate ops.size false).getD k false=false:=getD_replicate_false _;refine ⟨by simp,fun i hi'=>?_,?_,VG hi,hs.trans hi (mZ hi),ht.size,ht.defs,fun k j hk=>?_,fun j _=>(ht.rel j).step (mZ hi)⟩
  ·rw [hf] at hi';cases hi'
  ·have:(chain.filter fun e=>(Array.replicate ops.size false).getD e false)=[]:=by
    rw [List.filter_eq_nil_iff];intro k _;rw [hf];simp
   rw [this,List.length_nil,h0];exact hh
  ·rw [hf] at hk;cases hk
 ·refine Nat.le_trans (List.length_filter_le _ _) ?_;exact hp.len
end
section
variable {P:Program} {T:Tab} {X0:Ctx}
theorem aN (hT:bD P T) (hm:P.follows .mixedOrders=true) {id:Nat} {l:List Oper} {n:Nat} {t:Fr} {h:aC} {Q:Exit→DS→Prop} (chain order:List Nat) (hp:rS l.toArray n chain order=true) (hd:tG P T l.toArray n chain (Q .normal) order t [h]):
  SWP P X0 (.region id l.toArray true) ⟨n,t,h⟩ Q:=W9.swp_drawn hT hm chain order hp hd
end
end Go.Dm.W9
end
section
namespace Go.Proofs.YtlbfnbldeefgmaaGreatDoor
open Go Go.Dm Go.Proofs
set_option maxRecDepth 100000
set_option maxHeartbeats 8000000
theorem zM4 {i p s:Int} {f:Bool}:zFg Tryz.prog 70 [.i .i64 i,.i .i64 p,.i .i64 s,.b f] [.i .i64 i,.i .i64 p,.i .i64 s,.b f] true:=by
 refine ⟨by kernel_rfl,fun vx vy w hx hy=>?_⟩
 have one:∀ vx:List Value,[PV.i .i64 i,.i .i64 p,.i .i64 s,.b f].map gM=vx.map some→vx=[.int .i64 i,.int .i64 p,.int .i64 s,.bool f]:=fun vx hx=>by
  match vx,hx with
  | [a,b,c,d],hx=>simp only [List.map_cons,List.map_nil,gM,List.cons.injEq,Option.some.injEq,and_true] at hx;rw [← hx.1,← hx.2.1,← hx.2.2.1,← hx.2.2.2]
  | [],hx=>simp at hx
  | [_],hx=>simp at hx
  | [_,_],hx=>simp at hx
  | [_,_,_],hx=>simp at hx
  | _::_::_::_::_::_,hx=>simp at hx
 rw [one vx hx,one vy hy];have u1:=Tryz.underlying3;have a1:=Tryz.isAgg3;have z1:=Tryz.sizeOf3;have u2:=Tryz.underlying4;have a2:=Tryz.isAgg4;have z2:=Tryz.sizeOf4;have hS:Tryz.prog.underlying 70=some (.struct (Tryz.prog.fieldsOf 70)):=by kernel_rfl
 have hp:Tryz.prog.stoodInHeld 70=false:=by kernel_rfl
 rw [show (10000:Nat)=9999+1 from rfl,run_equalIn_agg w 9999 70 _ _ hS hp]
 simp only [Program.fieldsOf,Tryz.underlying70]
 go_simp
theorem zLG {ti:TI} {h:aC} {i p s:Int} {f:Bool} {K:DV→aC→Prop} (hK:K (.c (.p (.b false))) h):
  zET Tryz.prog 70 ti h .neq (.agg [.p (.i .i64 i),.p (.i .i64 p),.p (.i .i64 s),.p (.b f)]) (.agg [.p (.i .i64 i),.p (.i .i64 p),.p (.i .i64 s),.p (.b f)]) K :=
 XF [.i .i64 i,.i .i64 p,.i .i64 s,.b f] [.i .i64 i,.i .i64 p,.i .i64 s,.b f] _ rfl rfl rfl rfl zM4 (.inr ⟨rfl,hK⟩)
theorem zM6 {q:List UInt8} {n:Int}:zFg Tryz.prog 73 [.s q,.i .i64 n] [.s q,.i .i64 n] true:=by
 refine ⟨by kernel_rfl,fun vx vy w hx hy=>?_⟩
 have one:∀ vx:List Value,[PV.s q,.i .i64 n].map gM=vx.map some→vx=[.string ⟨q.toArray⟩,.int .i64 n]:=fun vx hx=>by
  match vx,hx with
  | [a,b],hx=>simp only [List.map_cons,List.map_nil,gM,List.cons.injEq,Option.some.injEq,and_true] at hx;rw [← hx.1,← hx.2]
  | [],hx=>simp at hx
  | [_],hx=>simp at hx
  | _::_::_::_,hx=>simp at hx
 rw [one vx hx,one vy hy];have u1:=Tryz.underlying3;have a1:=Tryz.isAgg3;have z1:=Tryz.sizeOf3;have u2:=Tryz.underlying9;have a2:=Tryz.isAgg9;have z2:=Tryz.sizeOf9;have hS:Tryz.prog.underlying 73=some (.struct (Tryz.prog.fieldsOf 73)):=by kernel_rfl
 have hp:Tryz.prog.stoodInHeld 73=false:=by kernel_rfl
 rw [show (10000:Nat)=9999+1 from rfl,run_equalIn_agg w 9999 73 _ _ hS hp]
 simp only [Program.fieldsOf,Tryz.underlying73]
 go_simp
theorem zLR {ti:TI} {h:aC} {q:List UInt8} {n:Int} {K:DV→aC→Prop} (hK:K (.c (.p (.b false))) h):
  zET Tryz.prog 73 ti h .neq (.agg [.p (.s q),.p (.i .i64 n)]) (.agg [.p (.s q),.p (.i .i64 n)]) K :=
 XF [.s q,.i .i64 n] [.s q,.i .i64 n] _ rfl rfl rfl rfl zM6 (.inr ⟨rfl,hK⟩)
end Go.Proofs.YtlbfnbldeefgmaaGreatDoor
end
