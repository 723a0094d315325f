/- Part 38 of the proof of roomDeep_card, set without needless blanks. No condition. -/
import Derived.Test.YtlbfnbldeefgmaaGreatDoorC36
set_option linter.all false
section
namespace Go.Proofs.YtlbfnbldeefgmaaGreatDoor
open Go Go.Dm Go.Proofs
set_option maxRecDepth 100000
set_option maxHeartbeats 8000000
theorem zGX {p q:List UInt8} {k k' nk nk' nm nm':Int} {o o':Bool} {t t':Nat} {d d':List UInt8}:
  aA Tryz.prog 193 [.agg [.p (.s p),.p (.i .i64 k),.p (.b o),.p (.i .i64 nk),.p (.i .i64 nm),.p (.f t),.p (.sl 1 (bW d))],.agg [.p (.s q),.p (.i .i64 k'),.p (.b o'),.p (.i .i64 nk'),.p (.i .i64 nm'),.p (.f t'),.p (.sl 1 (bW d'))]] [] fun r h=>r=.c (.p (.i .i64 (NP p q)))∧h=[]:=by
 refine ent aC aK Tryz.func193 rfl rfl fun X0 hX=>?_;simp only [Tryz.f193,go_sem]
 repeat' (first|simp only [*,go_sem,Nat.reduceLT,Nat.reduceEqDiff,↓reduceIte,]|((with_reducible refine aQ (qK) ?_ ?_ ?_);exact rfl;exact rfl))
theorem zHl {h:aB} {id:Nat} {l:List En} (hu:∀ x∈l,∀ y∈l,x.p=y.p→x=y) (hid:h[id]? = some (.arr 7 (eZ l) false)) (hsz:l.length<4611686018427387904):
  aA Tryz.prog 192 [.c (.own id 0 l.length),.c (.clo 193 [])] h fun d h'=>d=.tup []∧h'=h.set id (.arr 7 (eZ (xA l)) false):=by
 have:=sA (P:=Tryz.prog) (f:=192) (g:=193) 7 (by decide) cfI zB1
  (enters Tryz.func192 rfl rfl) (enters_of Tryz.func193 (by kernel_rfl) rfl)
  (fun enc hk h1 c hO blk off cap d w hcmp hH hblk hsz=>Tryz.slices_SortFunc_f192 7 Tryz.isAgg75 Tryz.sizeOf75 enc hk h1 c hO 193 #[] blk off cap d w (enters_of Tryz.func193 (by kernel_rfl) rfl) hcmp hH hblk hsz)
  (fun p cap fv w=>Tryz.slices_SortFunc_none_f192 (α:=Nat) p cap fv w)
  (h:=h) (i0:=id) (es:=eZ l) (fun x hx y hy=>by
   obtain ⟨a,_,rfl⟩:=List.mem_map.1 hx;obtain ⟨b,_,rfl⟩:=List.mem_map.1 hy;exact zGX) (WZ hu) hid (by rw [BF];exact hsz)
 rw [YV,BF] at this;exact this
theorem zHm {h:aB} {id n:Nat} {l:List En} {K:DV→aB→Prop} (hu:∀ x∈l,∀ y∈l,x.p=y.p→x=y) (hsz:l.length<4611686018427387904) (hn:n=l.length) (hid:h[id]? = some (.arr 7 (eZ l) false)) (hk:K (.tup []) (h.set id (.arr 7 (eZ (xA l)) false))):
  aA Tryz.prog 192 [.c (.own id 0 n),.c (.clo 193 [])] h K:=by
 subst hn;exact aA.mono (zHl hu hid hsz) (by rintro _ _ ⟨rfl,rfl⟩;exact hk)
def jT (t w:List It) (k:Nat):List En:=((t.take k).filter fun y=>!(aW w y.p).isSome && !DO w (iI t w) y.p).map fun y=>jH y.p
theorem LD {t w:List It} {k:Nat} {x:It} (h:t[k]? = some x):jT t w (k+1)=jT t w k++(if !(aW w x.p).isSome && !DO w (iI t w) x.p then [jH x.p] else []):=by
 unfold jT;rw [eB h,List.map_append];split <;> rfl
theorem SD (t w:List It) (k:Nat):(jT t w k).length≤t.length:=by
 unfold jT;rw [List.length_map];have:=List.length_filter_le (fun y:It=>!(aW w y.p).isSome && !DO w (iI t w) y.p) (t.take k);rw [List.length_take] at this;omega
theorem zGY {t w:List It} {k:Nat} (hk:t.length≤k):kS t w=gO t (iI t w) w++jT t w k:=by
 unfold jT;rw [List.take_of_length_le hk];rfl
theorem zDV (out:List En) (p:List UInt8):iW (eZ out++[[.s p,.i .i64 2,.b false,.i .i64 0,.i .i64 0,.f 0,.nil]]) (eZ (out++[jH p])):=by
 rw [← NW];exact AO (xJ _) ⟨⟨.inl rfl,.inl rfl,.inl rfl,.inl rfl,.inl rfl,.inl rfl,.inr ⟨rfl,1,rfl⟩,True.intro⟩,True.intro⟩
theorem LN {t w:List It} (ht:OkT t) (hw:OkT w):
  aA Tryz.prog 108 [.c (.p (.sl 5 (aZ t))),.c (.p (.sl 5 (aZ w)))] [] fun r h=>r=.c (.p (.sl 7 (eZ (fR t w))))∧h=[]:=by
 have htl:=ht.len;have hwl:=hw.len;have hsrt:=zA0 ht hw;have hinj:=GS ht hw;have hop:=fun (p:List UInt8) (hp:p.length≤1000000)=>PW (p:=p) ht hw hp;have hhi:=fun (p:List UInt8) (hp:p.length≤1000000)=>zDZ (p:=p) ht hw hp;have hgt:=fun (p:List UInt8)=>jY (t:=t) (p:=p) (by omega) ht.srt ht.ne (fun x hx=>Nat.le_trans (ht.dlen x hx) (by decide));have hgw:=fun (p:List UInt8)=>jY (t:=w) (p:=p) (by omega) hw.srt hw.ne (fun x hx=>Nat.le_trans (hw.dlen x hx) (by decide));have hiB:=fun (x:It) (hx:x∈w)=>zA (t:=t) hw hx;refine entS aC Tryz.func108 rfl rfl fun X0 hX=>?_;simp only [Tryz.f108,go_sem];refine dE aC aK ?_
 repeat' (simp only [*,go_sem,Nat.reduceLT,])
 refine dE aC aK ?_
 repeat' (simp only [*,go_sem,Nat.reduceLT,Nat.reduceLeDiff,Nat.reduceEqDiff,↓reduceIte,Nat.reduceAdd,])
 refine dE aC aK ?_
 repeat' (simp only [*,go_sem,Nat.reduceLT,])
 refine DL aC aK 6 7 rfl ?_;refine DJ aC aK (α:=Unit) (fun _=>⟨97,[(0,.c (.p (.sl 5 (aZ t)))),(1,.c (.p (.sl 5 (aZ w)))),(5,.c (.ptr 0 0)),(6,.c (.own 1 0 (gO t (iI t w) w).length))],[.box [.p (.sl 5 (aZ t)),.p (.sl 5 (aZ w))],.arr 7 (eZ (gO t (iI t w) w)) false]⟩) (fun _=>True) ?_ ?_
 ·repeat' (simp only [*,go_sem,Nat.reduceLT,Nat.reduceEqDiff,↓reduceIte,])
  refine pR (α:=Nat × List En) (fun x=>⟨97,[(0,.c (.p (.sl 5 (aZ t)))),(1,.c (.p (.sl 5 (aZ w)))),(5,.c (.ptr 0 0)),(19,.c (.p (.sl 5 (aZ w)))),(20,.c (.p (.i .i64 w.length))),(21,.c (.p (.i .i64 x.1))),(6,.c (.own 1 0 x.2.length))],[.box [.p (.sl 5 (aZ t)),.p (.sl 5 (aZ w))],.arr 7 (eZ x.2) false]⟩)
   (fun x=>x.1≤w.length∧gO t (iI t w) (w.take x.1)=x.2) (fun x=>w.length-x.1) (0,[]) ⟨Nat.zero_le _,rfl⟩ (.inl (aJ (by rw [hX];rfl) rfl rfl (by simp [aH,aN,aD,aL,aG,]))) ?_
  rintro ⟨k,out⟩ ⟨hk,hout⟩;simp only at hk hout;have hol:out.length≤120:=by
   have:=pZ t (iI t w) (w.take k);rw [hout,List.length_take] at this;omega
  by_cases hlt:k<w.length
  ·have hx:w[k]? = some w[k]:=List.getElem?_eq_getElem hlt;have hg:=dD hx;have hib:=hiB _ (List.getElem_mem hlt);have hxl:=hw.plen _ (List.getElem_mem hlt);have hxd:=hw.dlen _ (List.getElem_mem hlt);have hxt:=hw.tlen _ (List.getElem_mem hlt);have hnx:=TH (t:=t) (os:=iI t w) hx;rw [hout] at hnx;have h1:decide ((k:Int)<(w.length:Int))=true:=decide_eq_true (by omega);have hli:(k:Int)<(w.length:Int):=by omega
   have hk0:(0:Int)≤k:=by omega
   have w1:IntKind.i64.wrap ((k:Int)+1)=k+1:=wrap_i64 (by omega) (by omega);have hgx:=hgt w[k].p;have hox:=hop w[k].p (by omega);have hot:=ht.gett w[k].p;generalize w[k]=x at hx hg hib hxl hxd hxt hnx hgx hox hot;clear hop hhi hgt hgw hiB hinj hsrt hout hx;unfold MC at hnx;generalize isB (iI t w) x.p=b at hib hnx;generalize mJ t w x.p=om at hib hox;have hnd:=wA (x:=(aW t x.p).getD nd0) (y:=x.n) hot hxt;generalize (aW t x.p).isSome=is at hgx hnx;generalize (aW t x.p).getD nd0=n at hgx hnx hnd;obtain ⟨xp,⟨xk,xm,xt,xd⟩⟩:=x;obtain ⟨nk,nm,nt,nd⟩:=n;unfold Nd.cv at hgx;simp only at *;have hns:=CJ (k:=nk) (m:=nm) (t:=nt) (d:=nd) (k':=xk) (m':=xm) (t':=xt) (d':=xd);rw [hnd] at hns;generalize iS ⟨nk,nm,nt,nd⟩ ⟨xk,xm,xt,xd⟩=sm at hns hnx;have hcp:=EN (k:=xk) (m:=xm) (t:=xt) (d:=xd) (by omega);have hb1:(out.length+1)*80≤140737488355328:=by omega
   have hb2:out.length+1≤9223372036854775807:=by omega
   refine dE aC aK ?_
   repeat' (simp only [*,go_sem,Nat.reduceLT,Nat.reduceEqDiff,↓reduceIte,])
   refine dE aC aK ?_
   repeat' (simp only [*,go_sem,↓reduceIte,])
   refine qL ?_;refine dE aC aK ?_
   repeat' (simp only [*,go_sem,Nat.reduceLT,Nat.reduceLeDiff,Nat.reduceEqDiff,↓reduceIte,Nat.reduceAdd,])
   refine DJ aC aK (α:=Unit) (fun _=>⟨97,[(0,.c (.p (.sl 5 (aZ t)))),(1,.c (.p (.sl 5 (aZ w)))),(5,.c (.ptr 0 0)),(19,.c (.p (.sl 5 (aZ w)))),(20,.c (.p (.i .i64 w.length))),(21,.c (.p (.i .i64 k))),(6,.c (.own 1 0 out.length)),(8,.c (.ptr 2 0)),(9,.c (.p (.b b)))],[.box [.p (.sl 5 (aZ t)),.p (.sl 5 (aZ w))],.arr 7 (eZ out) false,.box [.p (.s xp),.p (.i .i64 xk),.p (.i .i64 xm),.p (.f xt),.p (.sl 1 (bW xd))]]⟩) (fun _=>True) ?_ ?_
   ·clear hnx hgx hns hcp;cases hk2:(xk == 2)
    ·rw [hk2,Bool.false_and] at hib;subst hib
     repeat' (simp only [*,go_sem,Nat.reduceLT,Nat.reduceEqDiff,↓reduceIte,])
     exact zJx () trivial (aJ (by first|rfl|(rw [hX];rfl)) rfl rfl (by simp [aH,aN,aD,aL,aG,]))
    ·rw [hk2,Bool.true_and] at hib;subst hib
     repeat' (first|simp only [*,go_sem,Nat.reduceLT,Nat.reduceLeDiff,Nat.reduceEqDiff,↓reduceIte,Nat.reduceAdd,]|((with_reducible refine aQ (hox) ?_ ?_ ?_);exact rfl;exact rfl))
     exact zJx () trivial (aJ (by first|rfl|(rw [hX];rfl)) rfl rfl (by simp [aH,aN,aD,aL,aG,]))
   rintro - -;clear hox hib;by_cases hp:b=true∨is=false∨sm=false
   ·have hnw:(if b=true then [(⟨xp,1,true,⟨xk,xm,xt,xd⟩⟩:En)] else if (!is || !sm)=true then [⟨xp,1,false,⟨xk,xm,xt,xd⟩⟩] else [])=[⟨xp,1,b,⟨xk,xm,xt,xd⟩⟩]:=by
     cases b
     ·rcases hp with hp|rfl|rfl
      ·cases hp
      ·rfl
      ·simp
     ·rfl
    rw [hnw] at hnx;have hJ:k+1≤w.length∧gO t (iI t w) (w.take (k+1))=out++[⟨xp,1,b,⟨xk,xm,xt,xd⟩⟩]:=⟨by omega,hnx⟩
    have hP:=PLift.up hJ;clear hJ hnx hnw;refine gV aC aK ?_;cases b <;> cases is <;> cases sm
    case false.true.true=>exact absurd hp (by decide)
    all_goals clear hp
    all_goals repeat' (first|simp only [*,go_sem,Nat.reduceLT,Nat.reduceLeDiff,Nat.reduceEqDiff,↓reduceIte,Nat.reduceAdd,Bool.not_true,Bool.not_false]|((with_reducible refine cH (hgx) ?_ ?_ ?_);exact rfl;exact fun _=>rfl)|((with_reducible refine aQ (hns) ?_ ?_ ?_);exact rfl;exact rfl)|((refine aO (id:=9) aC aK [8,9] [1,2,3,4,5,6,7,8,0,9,10] (by decide +kernel) ?_);(repeat' (first|(refine bC ?_)|((refine dB ?_ ?_ rfl rfl rfl ?_ ?_);(rotate_left 2);(focus ((repeat' (first|simp only [*,go_sem,Nat.reduceLT,Nat.reduceLeDiff,Nat.reduceEqDiff,↓reduceIte,Nat.reduceAdd,Nat.reduceMul,Nat.reduceBEq,]|((with_reducible refine And.intro ?_ ?_);decide)));((refine And.intro ?_ ?_ <;> exact rfl))));(simp only [aF]))|((refine dA ?_ rfl rfl rfl ?_ ?_);(rotate_left 1);(focus ((repeat' (first|exact bI|refine bA ?_ ?_));(all_goals ((repeat' (first|simp only [*,go_sem,Nat.reduceLT,Nat.reduceLeDiff,Nat.reduceEqDiff,↓reduceIte,Nat.reduceAdd,]|((with_reducible refine cH (hcp) ?_ ?_ ?_);exact rfl;exact fun _=>rfl)));(try (exact rfl))))));(simp only [aF]))))))
    all_goals refine gV aC aK ?_
    all_goals repeat' (simp only [*,go_sem,Nat.reduceLT,Nat.reduceEqDiff,↓reduceIte,])
    all_goals exact zK (k+1,out++[⟨xp,1,_,⟨xk,xm,xt,xd⟩⟩]) 1 5 hP.down (by simp only;omega) (by first|rfl|(rw [hX];rfl)) rfl (aJ (by first|rfl|(rw [hX];rfl)) rfl rfl (by simp [aH,aN,aD,aL,aG,zBF,WC,zBD]))
   ·have hb:b=false:=by cases b;rfl;exact absurd (.inl rfl) hp
    have hi:is=true:=by cases is;exact absurd (.inr (.inl rfl)) hp;rfl
    have hs:sm=true:=by cases sm;exact absurd (.inr (.inr rfl)) hp;rfl
    subst hb;subst hi;subst hs;have hJ:k+1≤w.length∧gO t (iI t w) (w.take (k+1))=out:=⟨by omega,by rw [hnx];simp⟩
    have hP:=PLift.up hJ;clear hJ hnx hp;refine gV aC aK ?_
    repeat' (first|simp only [*,go_sem,Nat.reduceLT,Nat.reduceLeDiff,Nat.reduceEqDiff,↓reduceIte,Nat.reduceAdd,Bool.not_true]|((with_reducible refine cH (hgx) ?_ ?_ ?_);exact rfl;exact fun _=>rfl)|((with_reducible refine aQ (hns) ?_ ?_ ?_);exact rfl;exact rfl))
    refine gV aC aK ?_
    repeat' (simp only [*,go_sem,Nat.reduceLT,Nat.reduceEqDiff,↓reduceIte,])
    exact jC (k+1,out) hP.down (by simp only;omega) (aJ (by first|rfl|(rw [hX];rfl)) rfl rfl (by simp [aH,aN,aD,aL,aG,]))
  ·have h1:decide ((k:Int)<(w.length:Int))=false:=decide_eq_false (by omega);rw [List.take_of_length_le (by omega)] at hout;clear hop hhi hgt hgw hiB hinj hsrt;have hP:=PLift.up hout;clear hout;refine dE aC aK ?_
   repeat' (simp only [*,go_sem,Nat.reduceLT,Nat.reduceEqDiff,↓reduceIte,])
   refine dE aC aK ?_
   repeat' (simp only [*,go_sem,↓reduceIte,])
   exact zJx () trivial (aJ (by rw [hX];rfl) (by rw [← hP.down];rfl) rfl (by simp [aH,aN,aD,aL,aG,hP.down]))
 rintro - -;generalize hpu:gO t (iI t w) w=pu;have hpl:pu.length≤120:=by
  have:=pZ t (iI t w) w;rw [hpu] at this;omega
 refine DJ aC aK (α:=Unit) (fun _=>⟨97,[(6,.c (.own 1 0 (kS t w).length))],[.box [.p (.sl 5 (aZ t)),.p (.sl 5 (aZ w))],.arr 7 (eZ (kS t w)) false]⟩) (fun _=>True) ?_ ?_
 ·have hpu2:=PLift.up hpu;clear hpu
  repeat' (simp only [*,go_sem,Nat.reduceLT,↓reduceIte,])
  refine pR (α:=Nat × List En) (fun x=>⟨97,[(0,.c (.p (.sl 5 (aZ t)))),(1,.c (.p (.sl 5 (aZ w)))),(5,.c (.ptr 0 0)),(65,.c (.p (.sl 5 (aZ t)))),(66,.c (.p (.i .i64 t.length))),(67,.c (.p (.i .i64 x.1))),(6,.c (.own 1 0 x.2.length))],[.box [.p (.sl 5 (aZ t)),.p (.sl 5 (aZ w))],.arr 7 (eZ x.2) false]⟩)
   (fun x=>x.1≤t.length∧pu++jT t w x.1=x.2) (fun x=>t.length-x.1) (0,pu) ⟨Nat.zero_le _,by simp [jT]⟩ (.inl (aJ (by rw [hX];rfl) rfl rfl (by simp [aH,aN,aD,aL,aG,]))) ?_
  rintro ⟨k,out⟩ ⟨hk,hout⟩;simp only at hk hout;have hol:out.length≤240:=by
   rw [← hout,List.length_append];have:=SD t w k;omega
  by_cases hlt:k<t.length
  ·have hx:t[k]? = some t[k]:=List.getElem?_eq_getElem hlt;have hg:=dD hx;have hxl:=ht.plen _ (List.getElem_mem hlt);have hnx:=LD (w:=w) hx;have h1:decide ((k:Int)<(t.length:Int))=true:=decide_eq_true (by omega);have hli:(k:Int)<(t.length:Int):=by omega
   have hk0:(0:Int)≤k:=by omega
   have w1:IntKind.i64.wrap ((k:Int)+1)=k+1:=wrap_i64 (by omega) (by omega);have hgx:=hgw t[k].p;have hhx:=hhi t[k].p (by omega);generalize t[k]=x at hx hg hxl hnx hgx hhx;have hnx2:pu++jT t w (k+1)=out++(if !(aW w x.p).isSome && !DO w (iI t w) x.p then [jH x.p] else []):=by
    rw [hnx,← hout,List.append_assoc]
   clear hop hhi hgt hgw hiB hinj hsrt hout hx hnx;generalize (aW w x.p).isSome=is at hgx hnx2;generalize DO w (iI t w) x.p=hid at hhx hnx2;generalize (aW w x.p).getD nd0=n at hgx;obtain ⟨xp,⟨xk,xm,xt,xd⟩⟩:=x;obtain ⟨nk,nm,nt,nd⟩:=n;unfold Nd.cv at hgx;simp only at *;have hb1:(out.length+1)*80≤140737488355328:=by omega
   have hb2:out.length+1≤9223372036854775807:=by omega
   refine dE aC aK ?_
   repeat' (simp only [*,go_sem,Nat.reduceLT,Nat.reduceEqDiff,↓reduceIte,])
   refine dE aC aK ?_
   repeat' (simp only [*,go_sem,↓reduceIte,])
   refine qL ?_;refine dE aC aK ?_
   repeat' (simp only [*,go_sem,Nat.reduceLT,Nat.reduceLeDiff,Nat.reduceEqDiff,↓reduceIte,Nat.reduceAdd,])
   cases is
   ·cases hid
    ·have hJ:k+1≤t.length∧pu++jT t w (k+1)=out++[jH xp]:=⟨by omega,by rw [hnx2];rfl⟩
     have hP:=PLift.up hJ;clear hJ hnx2;refine gV aC aK ?_
     repeat' (first|simp only [*,go_sem,Nat.reduceLT,Nat.reduceLeDiff,Nat.reduceEqDiff,↓reduceIte,Nat.reduceAdd,Nat.reduceMul,Nat.reduceBEq,Bool.not_false]|((with_reducible refine cH (hgx) ?_ ?_ ?_);exact rfl;exact fun _=>rfl)|((with_reducible refine aQ (hhx) ?_ ?_ ?_);exact rfl;exact rfl)|((with_reducible refine And.intro ?_ ?_);decide))
     refine zHu 5 (eZ (out++[jH xp])) rfl (zDV out xp) ?_;refine gV aC aK ?_
     repeat' (simp only [*,go_sem,Nat.reduceLT,Nat.reduceEqDiff,↓reduceIte,List.set_cons_succ,List.set_cons_zero])
     exact zK (k+1,out++[jH xp]) 1 5 hP.down (by simp only;omega) (by first|rfl|(rw [hX];rfl)) rfl (aJ (by first|rfl|(rw [hX];rfl)) rfl rfl (by simp [aH,aN,aD,aL,aG,zBF,WC,zBD]))
    ·have hJ:k+1≤t.length∧pu++jT t w (k+1)=out:=⟨by omega,by rw [hnx2];simp⟩
     have hP:=PLift.up hJ;clear hJ hnx2;refine gV aC aK ?_
     repeat' (first|simp only [*,go_sem,Nat.reduceLT,Nat.reduceLeDiff,Nat.reduceEqDiff,↓reduceIte,Nat.reduceAdd,Bool.not_true,Bool.not_false]|((with_reducible refine cH (hgx) ?_ ?_ ?_);exact rfl;exact fun _=>rfl)|((with_reducible refine aQ (hhx) ?_ ?_ ?_);exact rfl;exact rfl))
     refine gV aC aK ?_
     repeat' (simp only [*,go_sem,Nat.reduceLT,Nat.reduceEqDiff,↓reduceIte,])
     exact jC (k+1,out) hP.down (by simp only;omega) (aJ (by first|rfl|(rw [hX];rfl)) rfl rfl (by simp [aH,aN,aD,aL,aG,]))
   ·have hJ:k+1≤t.length∧pu++jT t w (k+1)=out:=⟨by omega,by rw [hnx2];simp⟩
    have hP:=PLift.up hJ;clear hJ hnx2;refine gV aC aK ?_
    repeat' (first|simp only [*,go_sem,Nat.reduceLT,Nat.reduceLeDiff,Nat.reduceEqDiff,↓reduceIte,Nat.reduceAdd,Bool.not_true]|((with_reducible refine cH (hgx) ?_ ?_ ?_);exact rfl;exact fun _=>rfl))
    refine gV aC aK ?_
    repeat' (simp only [*,go_sem,Nat.reduceLT,Nat.reduceEqDiff,↓reduceIte,])
    exact jC (k+1,out) hP.down (by simp only;omega) (aJ (by first|rfl|(rw [hX];rfl)) rfl rfl (by simp [aH,aN,aD,aL,aG,]))
  ·have h1:decide ((k:Int)<(t.length:Int))=false:=decide_eq_false (by omega);have hE:out=kS t w:=by rw [zGY (k:=k) (by omega),hpu2.down];exact hout.symm
   clear hop hhi hgt hgw hiB hinj hsrt;have hP:=PLift.up hE;clear hout hE;refine dE aC aK ?_
   repeat' (simp only [*,go_sem,Nat.reduceLT,Nat.reduceEqDiff,↓reduceIte,])
   refine dE aC aK ?_
   repeat' (simp only [*,go_sem,↓reduceIte,])
   exact zJx () trivial (aJ (by rw [hX];rfl) (by rw [hP.down];rfl) rfl (by simp [aH,aN,aD,aL,aG,hP.down]))
 rintro - -;have hml:(kS t w).length≤1000:=by
  unfold kS PH;rw [List.length_append,List.length_map,hpu];have:=List.length_filter_le (fun y:It=>!(aW w y.p).isSome && !DO w (iI t w) y.p) t;omega
 have hsl:=zBW (kS t w);have hml2:(fR t w).length=(kS t w).length:=by rw [← hsrt];exact hsl
 refine gV aC aK ?_
 repeat' (first|simp only [*,go_sem,Nat.reduceLT,Nat.reduceEqDiff,↓reduceIte,List.set_cons_succ,List.set_cons_zero]|refine zHm (id:=1) (l:=kS t w) hinj (by omega) rfl (by rfl) ?_)
 all_goals rw [List.take_of_length_le (by omega)]
end Go.Proofs.YtlbfnbldeefgmaaGreatDoor
end
section
namespace Go.Proofs.YtlbfnbldeefgmaaGreatDoor
open Go Go.Dm Go.Proofs
set_option maxRecDepth 100000
set_option maxHeartbeats 8000000
theorem zBL {r:Rm} {i p q:Int} {f:Bool} {t:List It} (hr:OkR r) (ht:OkT t) (hp:OkT (treeR r p)):
  aA Tryz.prog 46 [.c (.ptr 0 0),.agg [.p (.i .i64 i),.p (.i .i64 p),.p (.i .i64 q),.p (.b f)],.c (.p (.sl 5 (aZ t)))] (cB r) fun d h=>d=.tup []∧h=cB ⟨r.N,r.L,oJ r.E i (fR (treeR r p) t),r.x⟩:=by
 have htr:=mP (a:=p) hr;have hmk:=LN hp ht;unfold cB at htr;generalize treeR r p=w at htr hmk ⊢;clear hr hp;refine ent aC aK Tryz.func46 rfl rfl fun X0 hX=>?_;simp only [Tryz.f46,go_sem]
 repeat' (first|simp only [*,go_sem,Nat.reduceLT,↓reduceIte,Nat.reduceAdd,]|((refine aO (id:=1) aC aK [12] [0,1,2,3,4,5,6,7,8,9,10,11,12] (by decide +kernel) ?_);(repeat' (first|(refine bC ?_)|((refine dB ?_ ?_ rfl rfl rfl ?_ ?_);(rotate_left 2);(focus ((repeat' (simp only [*,go_sem,Nat.reduceEqDiff,↓reduceIte,]));((refine And.intro ?_ ?_ <;> exact rfl))));(simp only [bF]))|((refine dA ?_ rfl rfl rfl ?_ ?_);(rotate_left 1);(focus ((repeat' (first|exact bI|refine bA ?_ ?_));(all_goals ((repeat' (first|simp only [*,go_sem,Nat.reduceLT,Nat.reduceEqDiff,↓reduceIte,Nat.reduceAdd,]|((with_reducible refine aS [0,1,2,3] (htr) ?_ ?_ ?_ ?_);exact rfl;exact rfl;(focus ((simp only [go_sem];done))))|((with_reducible refine cH (hmk) ?_ ?_ ?_);exact rfl;exact fun _=>rfl)));(try (exact rfl))))));(simp only [aF]))))))
end Go.Proofs.YtlbfnbldeefgmaaGreatDoor
end
section
namespace Go.Proofs
open Go.Shelf
def Tryz.growStr_ren:Go.Shelf.Ren:=⟨fun | 4=>353|n=>n,fun | 22=>31 | 25=>9 | 3=>3 | 4=>4 | 9=>9 | 20=>20 | 0=>0|n=>n,fun|n=>n⟩
theorem Tryz.growStr:Go.Proofs.Lays8.n4 Tryz.prog Tryz.growStr_ren:={
 mixed:=by kernel_rfl
 f4:=⟨Tryz.f353.name,by decide,Tryz.func353.trans (congrArg some (by kernel_rfl))⟩
 t0:=Tryz.underlying0
 a0:=Tryz.isAgg0
 z0:=Tryz.sizeOf0
 v0:=Tryz.zeroValue0
 t3:=Tryz.underlying3
 a3:=Tryz.isAgg3
 z3:=Tryz.sizeOf3
 v3:=Tryz.zeroValue3
 t4:=Tryz.underlying4
 a4:=Tryz.isAgg4
 z4:=Tryz.sizeOf4
 v4:=Tryz.zeroValue4
 t9:=Tryz.underlying9
 a9:=Tryz.isAgg9
 z9:=Tryz.sizeOf9
 v9:=Tryz.zeroValue9
 t20:=Tryz.underlying20
 a20:=Tryz.isAgg20
 z20:=Tryz.sizeOf20
 v20:=Tryz.zeroValue20
 t22:=Tryz.underlying31
 a22:=Tryz.isAgg31
 z22:=Tryz.sizeOf31
 v22:=Tryz.zeroValue31 }
def Tryz.growByte_ren:Go.Shelf.Ren:=⟨fun | 4=>297|n=>n,fun | 22=>28 | 25=>5 | 3=>3 | 4=>4 | 9=>9 | 20=>20 | 0=>0|n=>n,fun|n=>n⟩
theorem Tryz.growByte:Go.Proofs.Lays8.n4 Tryz.prog Tryz.growByte_ren:={
 mixed:=by kernel_rfl
 f4:=⟨Tryz.f297.name,by decide,Tryz.func297.trans (congrArg some (by kernel_rfl))⟩
 t0:=Tryz.underlying0
 a0:=Tryz.isAgg0
 z0:=Tryz.sizeOf0
 v0:=Tryz.zeroValue0
 t3:=Tryz.underlying3
 a3:=Tryz.isAgg3
 z3:=Tryz.sizeOf3
 v3:=Tryz.zeroValue3
 t4:=Tryz.underlying4
 a4:=Tryz.isAgg4
 z4:=Tryz.sizeOf4
 v4:=Tryz.zeroValue4
 t9:=Tryz.underlying9
 a9:=Tryz.isAgg9
 z9:=Tryz.sizeOf9
 v9:=Tryz.zeroValue9
 t20:=Tryz.underlying20
 a20:=Tryz.isAgg20
 z20:=Tryz.sizeOf20
 v20:=Tryz.zeroValue20
 t22:=Tryz.underlying28
 a22:=Tryz.isAgg28
 z22:=Tryz.sizeOf28
 v22:=Tryz.zeroValue28 }
end Go.Proofs
end
