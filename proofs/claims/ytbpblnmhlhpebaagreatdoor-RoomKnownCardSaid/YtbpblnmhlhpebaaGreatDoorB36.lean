/- Part 37 of the proof of roomKnown_card. No condition. -/
import Derived.Test.YtbpblnmhlhpebaaGreatDoorB35
set_option linter.all false
set_option maxRecDepth 100000
set_option maxHeartbeats 8000000
namespace Go.Proofs.YtbpblnmhlhpebaaGreatDoor
open Go Go.Dm Go.Proofs
section
theorem zHQ {p q:List UInt8} {k k' nk nk' nm nm':Int} {o o':Bool} {t t':Nat} {d d':List UInt8}:
  aA Tryz.prog 131 [.agg [.p (.s p),.p (.i .i64 k),.p (.b o),.p (.i .i64 nk),.p (.i .i64 nm),.p (.f t),.p (.sl 1 (cB d))],.agg [.p (.s q),.p (.i .i64 k'),.p (.b o'),.p (.i .i64 nk'),.p (.i .i64 nm'),.p (.f t'),.p (.sl 1 (cB d'))]] [] fun r h=>r=.c (.p (.i .i64 (AP p q)))∧h=[]:=by
 refine ent aB aK Tryz.func131 rfl rfl fun X0 hX=>?_
 simp only [Tryz.f131,go_sem]
 repeat' (first|simp only [*,go_sem,Nat.reduceLT,Nat.reduceEqDiff,↓reduceIte]|((with_reducible refine aS (mF) ?_ ?_ ?_);exact rfl;exact rfl))
theorem zHB {h:aC} {id:Nat} {l:List En} (hu:∀ x∈l,∀ y∈l,x.p=y.p→x=y) (hid:h[id]? = some (.arr 7 (gN l) false)) (hsz:l.length<4611686018427387904):
  aA Tryz.prog 130 [.c (.own id 0 l.length),.c (.clo 131 [])] h fun d h'=>d=.tup []∧h'=h.set id (.arr 7 (gN (yI l)) false):=by
 have:=mY (P:=Tryz.prog) (f:=130) (g:=131) 7 (by decide) cfI zAl
  (enters Tryz.func130 rfl rfl) (enters_of Tryz.func131 (by kernel_rfl) rfl)
  (fun enc hk h1 c hO blk off cap d w hcmp hH hblk hsz=>Tryz.slices_SortFunc_f130 7 Tryz.isAgg202 Tryz.sizeOf202 enc hk h1 c hO 131 #[] blk off cap d w (enters_of Tryz.func131 (by kernel_rfl) rfl) hcmp hH hblk hsz)
  (fun p cap fv w=>Tryz.slices_SortFunc_none_f130 (α:=Nat) p cap fv w)
  (h:=h) (i0:=id) (es:=gN l) (fun x hx y hy=>by
   obtain ⟨a,_,rfl⟩:=List.mem_map.1 hx
   obtain ⟨b,_,rfl⟩:=List.mem_map.1 hy
   exact zHQ) (zBE hu) hid (by rw [FJ];exact hsz)
 rw [zDm,FJ] at this
 exact this
theorem zIh {h:aC} {id n:Nat} {l:List En} {K:DV→aC→Prop} (hu:∀ x∈l,∀ y∈l,x.p=y.p→x=y) (hsz:l.length<4611686018427387904) (hn:n=l.length) (hid:h[id]? = some (.arr 7 (gN l) false)) (hk:K (.tup []) (h.set id (.arr 7 (gN (yI l)) false))):
  aA Tryz.prog 130 [.c (.own id 0 n),.c (.clo 131 [])] h K:=by
 subst hn
 exact aA.mono (zHB hu hid hsz) (by rintro _ _ ⟨rfl,rfl⟩;exact hk)
def lI (t w:List It) (k:Nat):List En:=((t.take k).filter fun y=>!(aQ w y.p).isSome && !GU w (jI t w) y.p).map fun y=>kQ y.p
theorem QW {t w:List It} {k:Nat} {x:It} (h:t[k]? = some x):lI t w (k+1)=lI t w k++(if !(aQ w x.p).isSome && !GU w (jI t w) x.p then [kQ x.p] else []):=by
 unfold lI
 rw [eV h,List.map_append]
 split <;> rfl
theorem XG (t w:List It) (k:Nat):(lI t w k).length≤t.length:=by
 unfold lI
 rw [List.length_map]
 have:=List.length_filter_le (fun y:It=>!(aQ w y.p).isSome && !GU w (jI t w) y.p) (t.take k)
 rw [List.length_take] at this
 omega
theorem zHZ {t w:List It} {k:Nat} (hk:t.length≤k):lW t w=iB t (jI t w) w++lI t w k:=by
 unfold lI
 rw [List.take_of_length_le hk]
 rfl
theorem zFw (out:List En) (p:List UInt8):jK (gN out++[[.s p,.i .i64 2,.b false,.i .i64 0,.i .i64 0,.f 0,.nil]]) (gN (out++[kQ p])):=by
 rw [← TH]
 exact CF (xK _) ⟨⟨.inl rfl,.inl rfl,.inl rfl,.inl rfl,.inl rfl,.inl rfl,.inr ⟨rfl,1,rfl⟩,True.intro⟩,True.intro⟩
theorem pN {t w:List It} (ht:OkT t) (hw:OkT w):
  aA Tryz.prog 64 [.c (.p (.sl 5 (aV t))),.c (.p (.sl 5 (aV w)))] [] fun r h=>r=.c (.p (.sl 7 (gN (dY t w))))∧h=[]:=by
 have htl:=ht.len
 have hwl:=hw.len
 have hsrt:=zCr ht hw
 have hinj:=MW ht hw
 have hop:=fun (p:List UInt8) (hp:p.length≤1000000)=>TG (p:=p) ht hw hp
 have hhi:=fun (p:List UInt8) (hp:p.length≤1000000)=>zFz (p:=p) ht hw hp
 have hgt:=fun (p:List UInt8)=>eT (t:=t) (p:=p) (by omega) ht.srt ht.ne (fun x hx=>Nat.le_trans (ht.dlen x hx) (by decide))
 have hgw:=fun (p:List UInt8)=>eT (t:=w) (p:=p) (by omega) hw.srt hw.ne (fun x hx=>Nat.le_trans (hw.dlen x hx) (by decide))
 have hiB:=fun (x:It) (hx:x∈w)=>CH (t:=t) hw hx
 refine zMi aB Tryz.func64 rfl rfl fun X0 hX=>?_
 simp only [Tryz.f64,go_sem]
 refine dB aB aK ?_
 repeat' (simp only [*,go_sem,Nat.reduceLT])
 refine dB aB aK ?_
 repeat' (simp only [*,go_sem,Nat.reduceLT,Nat.reduceLeDiff,Nat.reduceEqDiff,↓reduceIte,Nat.reduceAdd])
 refine dB aB aK ?_
 repeat' (simp only [*,go_sem,Nat.reduceLT])
 refine iC aB aK 6 7 rfl ?_
 refine vZ aB aK (α:=Unit) (fun _=>⟨97,[(0,.c (.p (.sl 5 (aV t)))),(1,.c (.p (.sl 5 (aV w)))),(5,.c (.ptr 0 0)),(6,.c (.own 1 0 (iB t (jI t w) w).length))],[.box [.p (.sl 5 (aV t)),.p (.sl 5 (aV w))],.arr 7 (gN (iB t (jI t w) w)) false]⟩) (fun _=>True) ?_ ?_
 ·repeat' (simp only [*,go_sem,Nat.reduceLT,Nat.reduceEqDiff,↓reduceIte])
  refine qU (α:=Nat × List En) (fun x=>⟨97,[(0,.c (.p (.sl 5 (aV t)))),(1,.c (.p (.sl 5 (aV w)))),(5,.c (.ptr 0 0)),(19,.c (.p (.sl 5 (aV w)))),(20,.c (.p (.i .i64 w.length))),(21,.c (.p (.i .i64 x.1))),(6,.c (.own 1 0 x.2.length))],[.box [.p (.sl 5 (aV t)),.p (.sl 5 (aV w))],.arr 7 (gN x.2) false]⟩)
   (fun x=>x.1≤w.length∧iB t (jI t w) (w.take x.1)=x.2) (fun x=>w.length-x.1) (0,[]) ⟨Nat.zero_le _,rfl⟩ (.inl (aJ (by rw [hX];rfl) rfl rfl (by simp [aI,aM,aD,aH,aG]))) ?_
  rintro ⟨k,out⟩ ⟨hk,hout⟩
  simp only at hk hout
  have hol:out.length≤120:=by
   have:=sA t (jI t w) (w.take k)
   rw [hout,List.length_take] at this
   omega
  by_cases hlt:k<w.length
  ·have hx:w[k]? = some w[k]:=List.getElem?_eq_getElem hlt
   have hg:=cZ hx
   have hib:=hiB _ (List.getElem_mem hlt)
   have hxl:=hw.plen _ (List.getElem_mem hlt)
   have hxd:=hw.dlen _ (List.getElem_mem hlt)
   have hxt:=hw.tlen _ (List.getElem_mem hlt)
   have hnx:=XV (t:=t) (os:=jI t w) hx
   rw [hout] at hnx
   have h1:decide ((k:Int)<(w.length:Int))=true:=decide_eq_true (by omega)
   have hli:(k:Int)<(w.length:Int):=by omega
   have hk0:(0:Int)≤k:=by omega
   have w1:IntKind.i64.wrap ((k:Int)+1)=k+1:=wrap_i64 (by omega) (by omega)
   have hgx:=hgt w[k].p
   have hox:=hop w[k].p (by omega)
   have hot:=ht.gett w[k].p
   generalize w[k]=x at hx hg hib hxl hxd hxt hnx hgx hox hot
   clear hop hhi hgt hgw hiB hinj hsrt hout hx
   unfold QJ at hnx
   generalize isB (jI t w) x.p=b at hib hnx
   generalize nR t w x.p=om at hib hox
   have hnd:=qT (x:=(aQ t x.p).getD nd0) (y:=x.n) hot hxt
   generalize (aQ t x.p).isSome=is at hgx hnx
   generalize (aQ t x.p).getD nd0=n at hgx hnx hnd
   obtain ⟨xp,⟨xk,xm,xt,xd⟩⟩:=x
   obtain ⟨nk,nm,nt,nd⟩:=n
   unfold Nd.cv at hgx
   simp only at *
   have hns:=wE (k:=nk) (m:=nm) (t:=nt) (d:=nd) (k':=xk) (m':=xm) (t':=xt) (d':=xd)
   rw [hnd] at hns
   generalize jF ⟨nk,nm,nt,nd⟩ ⟨xk,xm,xt,xd⟩=sm at hns hnx
   have hcp:=uS (k:=xk) (m:=xm) (t:=xt) (d:=xd) (by omega)
   have hb1:(out.length+1)*80≤140737488355328:=by omega
   have hb2:out.length+1≤9223372036854775807:=by omega
   refine dB aB aK ?_
   repeat' (simp only [*,go_sem,Nat.reduceLT,Nat.reduceEqDiff,↓reduceIte])
   refine dB aB aK ?_
   repeat' (simp only [*,go_sem,↓reduceIte])
   refine rE ?_
   refine dB aB aK ?_
   repeat' (simp only [*,go_sem,Nat.reduceLT,Nat.reduceLeDiff,Nat.reduceEqDiff,↓reduceIte,Nat.reduceAdd])
   refine vZ aB aK (α:=Unit) (fun _=>⟨97,[(0,.c (.p (.sl 5 (aV t)))),(1,.c (.p (.sl 5 (aV w)))),(5,.c (.ptr 0 0)),(19,.c (.p (.sl 5 (aV w)))),(20,.c (.p (.i .i64 w.length))),(21,.c (.p (.i .i64 k))),(6,.c (.own 1 0 out.length)),(8,.c (.ptr 2 0)),(9,.c (.p (.b b)))],[.box [.p (.sl 5 (aV t)),.p (.sl 5 (aV w))],.arr 7 (gN out) false,.box [.p (.s xp),.p (.i .i64 xk),.p (.i .i64 xm),.p (.f xt),.p (.sl 1 (cB xd))]]⟩) (fun _=>True) ?_ ?_
   ·clear hnx hgx hns hcp
    cases hk2:(xk == 2)
    ·rw [hk2,Bool.false_and] at hib
     subst hib
     repeat' (simp only [*,go_sem,Nat.reduceLT,Nat.reduceEqDiff,↓reduceIte])
     exact zLd () trivial (aJ (by first|rfl|(rw [hX];rfl)) rfl rfl (by simp [aI,aM,aD,aH,aG]))
    ·rw [hk2,Bool.true_and] at hib
     subst hib
     repeat' (first|simp only [*,go_sem,Nat.reduceLT,Nat.reduceLeDiff,Nat.reduceEqDiff,↓reduceIte,Nat.reduceAdd]|((with_reducible refine aS (hox) ?_ ?_ ?_);exact rfl;exact rfl))
     exact zLd () trivial (aJ (by first|rfl|(rw [hX];rfl)) rfl rfl (by simp [aI,aM,aD,aH,aG]))
   rintro - -
   clear hox hib
   by_cases hp:b=true∨is=false∨sm=false
   ·have hnw:(if b=true then [(⟨xp,1,true,⟨xk,xm,xt,xd⟩⟩:En)] else if (!is || !sm)=true then [⟨xp,1,false,⟨xk,xm,xt,xd⟩⟩] else [])=[⟨xp,1,b,⟨xk,xm,xt,xd⟩⟩]:=by
     cases b
     ·rcases hp with hp|rfl|rfl
      ·cases hp
      ·rfl
      ·simp
     ·rfl
    rw [hnw] at hnx
    have hJ:k+1≤w.length∧iB t (jI t w) (w.take (k+1))=out++[⟨xp,1,b,⟨xk,xm,xt,xd⟩⟩]:=⟨by omega,hnx⟩
    have hP:=PLift.up hJ
    clear hJ hnx hnw
    refine iG aB aK ?_
    cases b <;> cases is <;> cases sm
    case false.true.true=>exact absurd hp (by decide)
    all_goals clear hp
    all_goals repeat' (first|simp only [*,go_sem,Nat.reduceLT,Nat.reduceLeDiff,Nat.reduceEqDiff,↓reduceIte,Nat.reduceAdd,Bool.not_true,Bool.not_false]|((with_reducible refine bP (hgx) ?_ ?_ ?_);exact rfl;exact fun _=>rfl)|((with_reducible refine aS (hns) ?_ ?_ ?_);exact rfl;exact rfl)|((refine aN (id:=9) aB aK [8,9] [1,2,3,4,5,6,7,8,0,9,10] (by decide +kernel) ?_);(repeat' (first|(refine aW ?_)|((refine cX ?_ ?_ rfl rfl rfl ?_ ?_);(rotate_left 2);(focus ((repeat' (first|simp only [*,go_sem,Nat.reduceLT,Nat.reduceLeDiff,Nat.reduceEqDiff,↓reduceIte,Nat.reduceAdd,Nat.reduceMul,Nat.reduceBEq]|((with_reducible refine And.intro ?_ ?_);decide)));((refine And.intro ?_ ?_ <;> exact rfl))));(simp only [aF]))|((refine cY ?_ rfl rfl rfl ?_ ?_);(rotate_left 1);(focus ((repeat' (first|exact bJ|refine aZ ?_ ?_));(all_goals ((repeat' (first|simp only [*,go_sem,Nat.reduceLT,Nat.reduceLeDiff,Nat.reduceEqDiff,↓reduceIte,Nat.reduceAdd]|((with_reducible refine bP (hcp) ?_ ?_ ?_);exact rfl;exact fun _=>rfl)));(try (exact rfl))))));(simp only [aF]))))))
    all_goals refine iG aB aK ?_
    all_goals repeat' (simp only [*,go_sem,Nat.reduceLT,Nat.reduceEqDiff,↓reduceIte])
    all_goals exact jU (k+1,out++[⟨xp,1,_,⟨xk,xm,xt,xd⟩⟩]) 1 5 hP.down (by simp only;omega) (by first|rfl|(rw [hX];rfl)) rfl (aJ (by first|rfl|(rw [hX];rfl)) rfl rfl (by simp [aI,aM,aD,aH,aG,GF,DF,DN]))
   ·have hb:b=false:=by cases b;rfl;exact absurd (.inl rfl) hp
    have hi:is=true:=by cases is;exact absurd (.inr (.inl rfl)) hp;rfl
    have hs:sm=true:=by cases sm;exact absurd (.inr (.inr rfl)) hp;rfl
    subst hb;subst hi;subst hs
    have hJ:k+1≤w.length∧iB t (jI t w) (w.take (k+1))=out:=⟨by omega,by rw [hnx];simp⟩
    have hP:=PLift.up hJ
    clear hJ hnx hp
    refine iG aB aK ?_
    repeat' (first|simp only [*,go_sem,Nat.reduceLT,Nat.reduceLeDiff,Nat.reduceEqDiff,↓reduceIte,Nat.reduceAdd,Bool.not_true]|((with_reducible refine bP (hgx) ?_ ?_ ?_);exact rfl;exact fun _=>rfl)|((with_reducible refine aS (hns) ?_ ?_ ?_);exact rfl;exact rfl))
    refine iG aB aK ?_
    repeat' (simp only [*,go_sem,Nat.reduceLT,Nat.reduceEqDiff,↓reduceIte])
    exact gL (k+1,out) hP.down (by simp only;omega) (aJ (by first|rfl|(rw [hX];rfl)) rfl rfl (by simp [aI,aM,aD,aH,aG]))
  ·have h1:decide ((k:Int)<(w.length:Int))=false:=decide_eq_false (by omega)
   rw [List.take_of_length_le (by omega)] at hout
   clear hop hhi hgt hgw hiB hinj hsrt
   have hP:=PLift.up hout
   clear hout
   refine dB aB aK ?_
   repeat' (simp only [*,go_sem,Nat.reduceLT,Nat.reduceEqDiff,↓reduceIte])
   refine dB aB aK ?_
   repeat' (simp only [*,go_sem,↓reduceIte])
   exact zLd () trivial (aJ (by rw [hX];rfl) (by rw [← hP.down];rfl) rfl (by simp [aI,aM,aD,aH,aG,hP.down]))
 rintro - -
 generalize hpu:iB t (jI t w) w=pu
 have hpl:pu.length≤120:=by
  have:=sA t (jI t w) w
  rw [hpu] at this
  omega
 refine vZ aB aK (α:=Unit) (fun _=>⟨97,[(6,.c (.own 1 0 (lW t w).length))],[.box [.p (.sl 5 (aV t)),.p (.sl 5 (aV w))],.arr 7 (gN (lW t w)) false]⟩) (fun _=>True) ?_ ?_
 ·have hpu2:=PLift.up hpu
  clear hpu
  repeat' (simp only [*,go_sem,Nat.reduceLT,↓reduceIte])
  refine qU (α:=Nat × List En) (fun x=>⟨97,[(0,.c (.p (.sl 5 (aV t)))),(1,.c (.p (.sl 5 (aV w)))),(5,.c (.ptr 0 0)),(65,.c (.p (.sl 5 (aV t)))),(66,.c (.p (.i .i64 t.length))),(67,.c (.p (.i .i64 x.1))),(6,.c (.own 1 0 x.2.length))],[.box [.p (.sl 5 (aV t)),.p (.sl 5 (aV w))],.arr 7 (gN x.2) false]⟩)
   (fun x=>x.1≤t.length∧pu++lI t w x.1=x.2) (fun x=>t.length-x.1) (0,pu) ⟨Nat.zero_le _,by simp [lI]⟩ (.inl (aJ (by rw [hX];rfl) rfl rfl (by simp [aI,aM,aD,aH,aG]))) ?_
  rintro ⟨k,out⟩ ⟨hk,hout⟩
  simp only at hk hout
  have hol:out.length≤240:=by
   rw [← hout,List.length_append]
   have:=XG t w k
   omega
  by_cases hlt:k<t.length
  ·have hx:t[k]? = some t[k]:=List.getElem?_eq_getElem hlt
   have hg:=cZ hx
   have hxl:=ht.plen _ (List.getElem_mem hlt)
   have hnx:=QW (w:=w) hx
   have h1:decide ((k:Int)<(t.length:Int))=true:=decide_eq_true (by omega)
   have hli:(k:Int)<(t.length:Int):=by omega
   have hk0:(0:Int)≤k:=by omega
   have w1:IntKind.i64.wrap ((k:Int)+1)=k+1:=wrap_i64 (by omega) (by omega)
   have hgx:=hgw t[k].p
   have hhx:=hhi t[k].p (by omega)
   generalize t[k]=x at hx hg hxl hnx hgx hhx
   have hnx2:pu++lI t w (k+1)=out++(if !(aQ w x.p).isSome && !GU w (jI t w) x.p then [kQ x.p] else []):=by
    rw [hnx,← hout,List.append_assoc]
   clear hop hhi hgt hgw hiB hinj hsrt hout hx hnx
   generalize (aQ w x.p).isSome=is at hgx hnx2
   generalize GU w (jI t w) x.p=hid at hhx hnx2
   generalize (aQ w x.p).getD nd0=n at hgx
   obtain ⟨xp,⟨xk,xm,xt,xd⟩⟩:=x
   obtain ⟨nk,nm,nt,nd⟩:=n
   unfold Nd.cv at hgx
   simp only at *
   have hb1:(out.length+1)*80≤140737488355328:=by omega
   have hb2:out.length+1≤9223372036854775807:=by omega
   refine dB aB aK ?_
   repeat' (simp only [*,go_sem,Nat.reduceLT,Nat.reduceEqDiff,↓reduceIte])
   refine dB aB aK ?_
   repeat' (simp only [*,go_sem,↓reduceIte])
   refine rE ?_
   refine dB aB aK ?_
   repeat' (simp only [*,go_sem,Nat.reduceLT,Nat.reduceLeDiff,Nat.reduceEqDiff,↓reduceIte,Nat.reduceAdd])
   cases is
   ·cases hid
    ·have hJ:k+1≤t.length∧pu++lI t w (k+1)=out++[kQ xp]:=⟨by omega,by rw [hnx2];rfl⟩
     have hP:=PLift.up hJ
     clear hJ hnx2
     refine iG aB aK ?_
     repeat' (first|simp only [*,go_sem,Nat.reduceLT,Nat.reduceLeDiff,Nat.reduceEqDiff,↓reduceIte,Nat.reduceAdd,Nat.reduceMul,Nat.reduceBEq,Bool.not_false]|((with_reducible refine bP (hgx) ?_ ?_ ?_);exact rfl;exact fun _=>rfl)|((with_reducible refine aS (hhx) ?_ ?_ ?_);exact rfl;exact rfl)|((with_reducible refine And.intro ?_ ?_);decide))
     refine zHy 5 (gN (out++[kQ xp])) rfl (zFw out xp) ?_
     refine iG aB aK ?_
     repeat' (simp only [*,go_sem,Nat.reduceLT,Nat.reduceEqDiff,↓reduceIte,List.set_cons_succ,List.set_cons_zero])
     exact jU (k+1,out++[kQ xp]) 1 5 hP.down (by simp only;omega) (by first|rfl|(rw [hX];rfl)) rfl (aJ (by first|rfl|(rw [hX];rfl)) rfl rfl (by simp [aI,aM,aD,aH,aG,GF,DF,DN]))
    ·have hJ:k+1≤t.length∧pu++lI t w (k+1)=out:=⟨by omega,by rw [hnx2];simp⟩
     have hP:=PLift.up hJ
     clear hJ hnx2
     refine iG aB aK ?_
     repeat' (first|simp only [*,go_sem,Nat.reduceLT,Nat.reduceLeDiff,Nat.reduceEqDiff,↓reduceIte,Nat.reduceAdd,Bool.not_true,Bool.not_false]|((with_reducible refine bP (hgx) ?_ ?_ ?_);exact rfl;exact fun _=>rfl)|((with_reducible refine aS (hhx) ?_ ?_ ?_);exact rfl;exact rfl))
     refine iG aB aK ?_
     repeat' (simp only [*,go_sem,Nat.reduceLT,Nat.reduceEqDiff,↓reduceIte])
     exact gL (k+1,out) hP.down (by simp only;omega) (aJ (by first|rfl|(rw [hX];rfl)) rfl rfl (by simp [aI,aM,aD,aH,aG]))
   ·have hJ:k+1≤t.length∧pu++lI t w (k+1)=out:=⟨by omega,by rw [hnx2];simp⟩
    have hP:=PLift.up hJ
    clear hJ hnx2
    refine iG aB aK ?_
    repeat' (first|simp only [*,go_sem,Nat.reduceLT,Nat.reduceLeDiff,Nat.reduceEqDiff,↓reduceIte,Nat.reduceAdd,Bool.not_true]|((with_reducible refine bP (hgx) ?_ ?_ ?_);exact rfl;exact fun _=>rfl))
    refine iG aB aK ?_
    repeat' (simp only [*,go_sem,Nat.reduceLT,Nat.reduceEqDiff,↓reduceIte])
    exact gL (k+1,out) hP.down (by simp only;omega) (aJ (by first|rfl|(rw [hX];rfl)) rfl rfl (by simp [aI,aM,aD,aH,aG]))
  ·have h1:decide ((k:Int)<(t.length:Int))=false:=decide_eq_false (by omega)
   have hE:out=lW t w:=by rw [zHZ (k:=k) (by omega),hpu2.down];exact hout.symm
   clear hop hhi hgt hgw hiB hinj hsrt
   have hP:=PLift.up hE
   clear hout hE
   refine dB aB aK ?_
   repeat' (simp only [*,go_sem,Nat.reduceLT,Nat.reduceEqDiff,↓reduceIte])
   refine dB aB aK ?_
   repeat' (simp only [*,go_sem,↓reduceIte])
   exact zLd () trivial (aJ (by rw [hX];rfl) (by rw [hP.down];rfl) rfl (by simp [aI,aM,aD,aH,aG,hP.down]))
 rintro - -
 have hml:(lW t w).length≤1000:=by
  unfold lW TO
  rw [List.length_append,List.length_map,hpu]
  have:=List.length_filter_le (fun y:It=>!(aQ w y.p).isSome && !GU w (jI t w) y.p) t
  omega
 have hsl:=zCi (lW t w)
 have hml2:(dY t w).length=(lW t w).length:=by rw [← hsrt];exact hsl
 refine iG aB aK ?_
 repeat' (first|simp only [*,go_sem,Nat.reduceLT,Nat.reduceEqDiff,↓reduceIte,List.set_cons_succ,List.set_cons_zero]|refine zIh (id:=1) (l:=lW t w) hinj (by omega) rfl (by rfl) ?_)
 all_goals rw [List.take_of_length_le (by omega)]
end
section
theorem zB7 {r:Rm} {i p q:Int} {f:Bool} {t:List It} (hr:OkR r) (ht:OkT t) (hp:OkT (treeR r p)):
  aA Tryz.prog 44 [.c (.ptr 0 0),.agg [.p (.i .i64 i),.p (.i .i64 p),.p (.i .i64 q),.p (.b f)],.c (.p (.sl 5 (aV t)))] (bH r) fun d h=>d=.tup []∧h=bH ⟨r.N,r.L,mW r.E i (dY (treeR r p) t),r.x⟩:=by
 have htr:=dL (a:=p) hr
 have hmk:=pN hp ht
 unfold bH at htr
 generalize treeR r p=w at htr hmk ⊢
 clear hr hp
 refine ent aB aK Tryz.func44 rfl rfl fun X0 hX=>?_
 simp only [Tryz.f44,go_sem]
 repeat' (first|simp only [*,go_sem,Nat.reduceLT,↓reduceIte,Nat.reduceAdd]|((refine aN (id:=1) aB aK [12] [0,1,2,3,4,5,6,7,8,9,10,11,12] (by decide +kernel) ?_);(repeat' (first|(refine aW ?_)|((refine cX ?_ ?_ rfl rfl rfl ?_ ?_);(rotate_left 2);(focus ((repeat' (simp only [*,go_sem,Nat.reduceEqDiff,↓reduceIte]));((refine And.intro ?_ ?_ <;> exact rfl))));(simp only [bK]))|((refine cY ?_ rfl rfl rfl ?_ ?_);(rotate_left 1);(focus ((repeat' (first|exact bJ|refine aZ ?_ ?_));(all_goals ((repeat' (first|simp only [*,go_sem,Nat.reduceLT,Nat.reduceEqDiff,↓reduceIte,Nat.reduceAdd]|((with_reducible refine aL [0,1,2,3] (htr) ?_ ?_ ?_ ?_);exact rfl;exact rfl;(focus ((simp only [go_sem];done))))|((with_reducible refine bP (hmk) ?_ ?_ ?_);exact rfl;exact fun _=>rfl)));(try (exact rfl))))));(simp only [aF]))))))
end
end Go.Proofs.YtbpblnmhlhpebaaGreatDoor
namespace Go.Proofs
open Go.Shelf
section
def Tryz.growStr_ren:Go.Shelf.Ren:=⟨fun | 4=>365|n=>n,fun | 22=>43 | 25=>9 | 3=>3 | 4=>4 | 9=>9 | 20=>20 | 0=>0|n=>n,fun|n=>n⟩
theorem Tryz.growStr:Go.Proofs.Lays8.n4 Tryz.prog Tryz.growStr_ren:={
 mixed:=by kernel_rfl
 f4:=⟨Tryz.f365.name,by decide,Tryz.func365.trans (congrArg some (by kernel_rfl))⟩
 t0:=Tryz.underlying0
 a0:=Tryz.isAgg0
 z0:=Tryz.sizeOf0
 v0:=Tryz.zeroValue0
 t3:=Tryz.underlying3
 a3:=Tryz.isAgg3
 z3:=Tryz.sizeOf3
 v3:=Tryz.zeroValue3
 t4:=Tryz.underlying4
 a4:=Tryz.isAgg4
 z4:=Tryz.sizeOf4
 v4:=Tryz.zeroValue4
 t9:=Tryz.underlying9
 a9:=Tryz.isAgg9
 z9:=Tryz.sizeOf9
 v9:=Tryz.zeroValue9
 t20:=Tryz.underlying20
 a20:=Tryz.isAgg20
 z20:=Tryz.sizeOf20
 v20:=Tryz.zeroValue20
 t22:=Tryz.underlying43
 a22:=Tryz.isAgg43
 z22:=Tryz.sizeOf43
 v22:=Tryz.zeroValue43 }
def Tryz.growByte_ren:Go.Shelf.Ren:=⟨fun | 4=>326|n=>n,fun | 22=>40 | 25=>5 | 3=>3 | 4=>4 | 9=>9 | 20=>20 | 0=>0|n=>n,fun|n=>n⟩
theorem Tryz.growByte:Go.Proofs.Lays8.n4 Tryz.prog Tryz.growByte_ren:={
 mixed:=by kernel_rfl
 f4:=⟨Tryz.f326.name,by decide,Tryz.func326.trans (congrArg some (by kernel_rfl))⟩
 t0:=Tryz.underlying0
 a0:=Tryz.isAgg0
 z0:=Tryz.sizeOf0
 v0:=Tryz.zeroValue0
 t3:=Tryz.underlying3
 a3:=Tryz.isAgg3
 z3:=Tryz.sizeOf3
 v3:=Tryz.zeroValue3
 t4:=Tryz.underlying4
 a4:=Tryz.isAgg4
 z4:=Tryz.sizeOf4
 v4:=Tryz.zeroValue4
 t9:=Tryz.underlying9
 a9:=Tryz.isAgg9
 z9:=Tryz.sizeOf9
 v9:=Tryz.zeroValue9
 t20:=Tryz.underlying20
 a20:=Tryz.isAgg20
 z20:=Tryz.sizeOf20
 v20:=Tryz.zeroValue20
 t22:=Tryz.underlying40
 a22:=Tryz.isAgg40
 z22:=Tryz.sizeOf40
 v22:=Tryz.zeroValue40 }
end
end Go.Proofs
namespace Go.Proofs.YtbpblnmhlhpebaaGreatDoor
open Go Go.Dm Go.Proofs
section
theorem zDH {h:aC} {n:Nat} (hn:n≤1000000000):
  aA Tryz.prog 365 [.c (.p .nil),.c (.p (.i .i64 n))] h fun d h'=>d=.c (.own h.length 0 0)∧h'=h++[.arr 1 [] false]:=by
 have:=mA (n:=n) (h:=h) (e:=9) aB (by rw [tab9];exact fun h=>by cases h) (by rw [tab9];decide) (enters Tryz.func365 rfl rfl)
  (fun w=>Any8.slices_Grow_room Tryz.growStr none 0 0 0 w (Nat.le_refl _) (by decide) (by decide) (Nat.le_refl _))
  (fun i0 z n w h1 h2 h3 h4 h5 h6=>by
   have:=Any8.slices_Grow_grow Tryz.growStr i0 z h1 h2 h3 none 0 0 n [] w (Nat.le_refl _) (by omega) (by simpa using h5) (by simpa using h6) (by simp) (fun _=>rfl) (fun a ha=>by cases ha)
   simp only [Nat.zero_add,Nat.sub_zero] at this
   exact this)
  (by rw [tab9];simp only;omega) (by omega)
 rw [tab9] at this
 exact this
theorem YJ {h:aC} {n:Nat} (hn:n≤1000000000):
  aA Tryz.prog 326 [.c (.p .nil),.c (.p (.i .i64 n))] h fun d h'=>d=.c (.own h.length 0 0)∧h'=h++[.arr 1 [] false]:=by
 have:=mA (n:=n) (h:=h) (e:=5) aB (by rw [tab5];exact fun h=>by cases h) (by rw [tab5];decide) (enters Tryz.func326 rfl rfl)
  (fun w=>Any8.slices_Grow_room Tryz.growByte none 0 0 0 w (Nat.le_refl _) (by decide) (by decide) (Nat.le_refl _))
  (fun i0 z n w h1 h2 h3 h4 h5 h6=>by
   have:=Any8.slices_Grow_grow Tryz.growByte i0 z h1 h2 h3 none 0 0 n [] w (Nat.le_refl _) (by omega) (by simpa using h5) (by simpa using h6) (by simp) (fun _=>rfl) (fun a ha=>by cases ha)
   simp only [Nat.zero_add,Nat.sub_zero] at this
   exact this)
  (by rw [tab5];simp only;omega) (by omega)
 rw [tab5] at this
 exact this
theorem ZT {h:aC} {n:Nat} {K:DV→aC→Prop} (hn:n≤1000000000) (hk:K (.c (.own h.length 0 0)) (h++[.arr 1 [] false])):
  aA Tryz.prog 365 [.c (.p .nil),.c (.p (.i .i64 n))] h K:=(zDH hn).mono (by rintro _ _ ⟨rfl,rfl⟩;exact hk)
theorem ZE {h:aC} {n:Nat} {K:DV→aC→Prop} (hn:n≤1000000000) (hk:K (.c (.own h.length 0 0)) (h++[.arr 1 [] false])):
  aA Tryz.prog 326 [.c (.p .nil),.c (.p (.i .i64 n))] h K:=(YJ hn).mono (by rintro _ _ ⟨rfl,rfl⟩;exact hk)
theorem zDC {a b:List (List UInt8)} (ha:a.length≤100000) (hb:b.length≤100000):
  aA Tryz.prog 320 [.c (.p (.sl 1 [[.sl 1 (Go.Dm.encS a)],[.sl 1 (Go.Dm.encS b)]]))] [] fun r h=>r=.c (.p (.sl 1 (Go.Dm.encS (a++b))))∧h=[]:=by
 have w1:IntKind.i64.wrap ((a.length:Int))=a.length:=wrap_i64 (by omega) (by omega)
 have w2:IntKind.i64.wrap ((a.length:Int)+b.length)=((a.length+b.length:Nat):Int):=by rw [wrap_i64 (by omega) (by omega)];omega
 have h1:decide ((a.length:Int)<0)=false:=decide_eq_false (by omega)
 have h2:decide (((a.length+b.length:Nat):Int)<0)=false:=decide_eq_false (by omega)
 refine ent aB aK Tryz.func320 rfl rfl fun X0 hX=>?_
 simp only [Tryz.f320,go_sem]
 repeat' (first|simp only [*,go_sem,Nat.reduceLT,Nat.reduceLeDiff,Nat.reduceEqDiff,↓reduceIte,Nat.reduceAdd,Int.reduceLT,Int.reduceLE,Int.reduceAdd,Int.reduceNeg,Int.reduceToNat,Int.zero_add]|refine fT aB aK 3 ?_|refine ZT (n:=a.length+b.length) (by omega) ?_|((with_reducible refine And.intro ?_ ?_);omega))
 all_goals rw [List.take_of_length_le (by simp)]
theorem YE {d s:List UInt8} (hd:d.length≤1000000) (hs:s.length≤1000000):aA Tryz.prog 250 [.c (.p (.s d)),.c (.p (.s s))] [] fun r h=>r=.c (.p (.s (jL d s)))∧h=[]:=by
 unfold jL
 refine ent aB aK Tryz.func250 rfl rfl fun X0 hX=>?_
 simp only [Tryz.f250,go_sem]
 repeat' (first|simp only [*,go_sem,Nat.reduceLT,Nat.reduceLeDiff,Nat.reduceEqDiff,↓reduceIte]|with_reducible refine aU (fun _=>?_) (fun _=>?_)|((with_reducible refine And.intro ?_ ?_);omega))
 all_goals simp_all
theorem zFn (s:List UInt8):(s.all fun b=>!(b == 0))=s.all fun b=>!((b.toNat:Int) == 0):=by
 congr 1;funext b
 congr 1
 rw [Bool.eq_iff_iff,beq_iff_eq,beq_iff_eq]
 constructor
 ·rintro rfl;rfl
 ·intro h;exact UInt8.toNat_inj.1 (by have:(0:UInt8).toNat=0:=rfl;omega)
theorem wJ {s:List UInt8} (hs:s.length≤9223372036854775807):aA Tryz.prog 183 [.c (.p (.s s))] [] fun r h=>r=.tup [.c (.p (.sl 1 (Go.Dm.encS (fG s).1))),.c (.p (.i .i64 (fG s).2))]∧h=[]:=by
 have e0:decide (0≤Lib.indexByte s (Nat.toUInt8 0)) = !(s.all fun b=>!((b.toNat:Int) == 0)):=by
  have:=indexByte_none 0 s
  rw [← zFn,← this,← decide_not]
  exact decide_eq_decide.2 (by rw [Int.not_lt];exact Iff.rfl)
 refine aX ?_
 unfold fG
 cases q0:decide ((120:Int)<s.length)
 ·rw [if_neg (by decide)]
  have q0':¬ (120:Int)<s.length:=of_decide_eq_false q0
  generalize (s.all fun b=>!((b.toNat:Int) == 0))=q1 at e0 ⊢
  cases q1
  ·
   rw [if_pos (by rfl)]
   refine ent aB aK Tryz.func183 rfl rfl fun X0 hX=>?_
   simp only [Tryz.f183,go_sem]
   repeat' (first|simp only [*,go_sem,Nat.reduceLT,Nat.reduceEqDiff,↓reduceIte,Int.reduceToNat]|((with_reducible refine aS (pY (by omega)) ?_ ?_ ?_);exact rfl;exact rfl))
   all_goals exact .inr ⟨_,rfl⟩
  ·rw [if_neg (by decide)]
   have hcl:(GO s).length≤s.length+1:=rF s []
   have hsp:=zBG (a:=s) (by omega)
   generalize GO s=P at hcl hsp ⊢
   refine ent aB aK Tryz.func183 rfl rfl fun X0 hX=>?_
   simp only [Tryz.f183,go_sem]
   repeat' (first|simp only [*,go_sem,Nat.reduceLT,Nat.reduceEqDiff,↓reduceIte,Int.reduceToNat]|((with_reducible refine aS (pY (by omega)) ?_ ?_ ?_);exact rfl;exact rfl)|((with_reducible refine bP (hsp) ?_ ?_ ?_);exact rfl;exact fun _=>rfl))
   clear hsp e0
   refine iC aB aK 4 1 rfl ?_
   refine bC aB aK (α:=Nat × List (List UInt8)) (fun x=>⟨33,[(16,.c (.p (.sl 1 (Go.Dm.encS P)))),(17,.c (.p (.i .i64 P.length))),(18,.c (.p (.i .i64 x.1))),(4,.c (.own 0 0 x.2.length))],[.arr 1 (Go.Dm.encS x.2) false]⟩)
    (fun x=>x.1≤P.length∧((P.take x.1).all fun y=>!decide ((24:Int)<y.length))=true∧((P.take x.1).filter fun y=>!(y == []))=x.2) (fun x=>P.length-x.1) (0,[]) ⟨Nat.zero_le _,rfl,rfl⟩ (.inl (aJ (by rw [hX];rfl) rfl rfl (by simp [aI,aM,aD,aH,aG,rP]))) ?_
   rintro ⟨k,out⟩ ⟨hk,hal,hfo⟩
   simp only at hk hal hfo
   have hol:out.length≤k:=by rw [← hfo];exact Nat.le_trans (List.length_filter_le ..) (List.length_take_le ..)
   by_cases hlt:k<P.length
   ·have hx:P[k]? = some P[k]:=List.getElem?_eq_getElem hlt
    have hg:=encS_at hx
    have h1:decide ((k:Int)<(P.length:Int))=true:=decide_eq_true (by omega)
    have h2:(k:Int)<(P.length:Int):=by omega
    have w1:IntKind.i64.wrap ((k:Int)+1)=k+1:=wrap_i64 (by omega) (by omega)
    have htk:=List.take_add_one (l:=P) (i:=k)
    have hmem:P[k]∈P:=List.getElem_mem hlt
    rw [hx] at htk
    generalize P[k]=x at hx hg htk hmem
    repeat' (first|simp only [*,go_sem,Nat.reduceLT,Nat.reduceLeDiff,Nat.reduceEqDiff,↓reduceIte,Nat.reduceAdd,Nat.reduceBEq]|with_reducible refine aU (fun _=>?_) (fun _=>?_)|((with_reducible refine And.intro ?_ ?_);((first|omega|decide))))
    ·rename_i hb
     have:(P.all fun y=>!decide ((24:Int)<y.length))=false:=by
      rw [List.all_eq_false]
      exact ⟨x,hmem,by rw [hb];decide⟩
     rw [this]
     exact ⟨.inr ⟨_,rfl⟩,rfl⟩
    ·rename_i hb hn
     have hn':x≠[]:=by simpa using hn
     exact jU (k+1,out++[x]) 0 2 ⟨by omega,by rw [htk];simp [hal,hb],by rw [htk,List.filter_append,hfo];simp [hn']⟩ (by simp only;omega) rfl rfl (aJ rfl rfl rfl (by simp [aI,aM,aD,aH,aG,GF,DF,DN]))
    ·rename_i hb hn
     have hn':x=[]:=by simpa using hn
     exact gL (k+1,out) ⟨by omega,by rw [htk];simp [hal,hb],by rw [htk,List.filter_append,hfo];simp [hn']⟩ (by simp only;omega) (aJ rfl rfl rfl (by simp [aI,aM,aD,aH,aG]))
   ·have h1:decide ((k:Int)<(P.length:Int))=false:=decide_eq_false (by omega)
    rw [List.take_of_length_le (by omega)] at hal hfo
    rw [hal,if_pos rfl,hfo]
    repeat' (simp only [*,go_sem,Nat.reduceLT,Nat.reduceEqDiff,↓reduceIte])
    all_goals first|exact .inl rfl|rw [List.take_of_length_le (by omega)]
 ·rw [if_pos (by rfl)]
  refine ent aB aK Tryz.func183 rfl rfl fun X0 hX=>?_
  simp only [Tryz.f183,go_sem]
  repeat' (simp only [*,go_sem,Nat.reduceLT,Nat.reduceEqDiff,↓reduceIte])
  all_goals exact .inr ⟨_,rfl⟩
end
end Go.Proofs.YtbpblnmhlhpebaaGreatDoor
namespace Go.Dm
open Go
section
theorem zLs {P:Program} {f:FuncId} {h:aC} {i:Nat} {c0 c1:List CV} {x y:PV} {r:DV} {K:DV→aC→Prop}
  (hc:aA P f [.c (.ptr 0 0),.c (.p x),.c (.p y)] [.box c0] fun d h'=>d=r∧h'=[.box c1])
  (h0:h[i]? = some (.box c0)) (hd:(c0.all FD && (c1.all FD && zCb r))=true) (hk:K r (h.set i (.box c1))):
  aA P f [.c (.ptr i 0),.c (.p x),.c (.p y)] h K:=aA.box (ps:=[x,y]) hc h0 hd hk
end
end Go.Dm
