/- Part 43 of the proof of roomKnown_card. No condition. -/
import Derived.Test.YtbpblnmhlhpebaaGreatDoorB41
set_option linter.all false
set_option maxRecDepth 100000
set_option maxHeartbeats 4000000
namespace Go.Proofs.YtbpblnmhlhpebaaGreatDoor
open Go Go.Dm
section
theorem VY (s:List UInt8):aA Tryz.prog 333 [.c (.p (.s s))] [] fun d h=>d=.c (.p (.b false))∧h=[]:=by
 refine ent aB aK Tryz.func333 rfl rfl fun X0 hX=>?_
 simp only [Tryz.f333,go_sem]
 repeat' (simp only [*,go_sem,Nat.reduceLT,Nat.reduceEqDiff,↓reduceIte,beq_self_eq_true])
 all_goals (first|(with_reducible rfl)|(simp_all [];done)|(simp_all [];omega)|(simp_all [];(repeat' split) <;> omega))
theorem zF6 {a b:List UInt8}:aA Tryz.prog 268 [.c (.p (.s a)),.c (.p (.s b))] [] fun d h=>d=.c (.p (.i .i64 (AP a b)))∧h=[]:=by
 unfold AP
 cases h1:bL a b <;> cases h2:(a == b)
 all_goals
  refine ent aB aK Tryz.func268 rfl rfl fun X0 hX=>?_
  simp only [Tryz.f268,go_sem]
 all_goals repeat' (first|simp only [*,go_sem,Nat.reduceLT,Nat.reduceEqDiff,↓reduceIte,Int.reduceNeg]|((with_reducible refine aS (VY _) ?_ ?_ ?_);exact rfl;exact rfl))
 all_goals simp
theorem zC3 {p q:List UInt8} {k m:Int}:aA Tryz.prog 266 [.agg [.p (.s p),.p (.i .i64 k)],.agg [.p (.s q),.p (.i .i64 m)]] [] fun r h=>r=.c (.p (.i .i64 (cfC ⟨p,k⟩ ⟨q,m⟩)))∧h=[]:=by
 unfold cfC
 simp only
 refine ent aB aK Tryz.func266 rfl rfl fun X0 hX=>?_
 simp only [Tryz.f266,go_sem]
 repeat' (first|simp only [*,go_sem,Nat.reduceLT,Nat.reduceEqDiff,↓reduceIte]|((refine aN (id:=1) aB aK [10,11] [0,1,2,3,4,5,6,7,8,9,10,11,12] (by decide +kernel) ?_);(repeat' (first|(refine aW ?_)|((refine cX ?_ ?_ rfl rfl rfl ?_ ?_);(rotate_left 2);(focus ((repeat' (first|simp only [*,go_sem,Nat.reduceLT,Nat.reduceLeDiff,Nat.reduceEqDiff,↓reduceIte,Nat.reduceAdd]|((with_reducible refine aS (zMo _ _) ?_ ?_ ?_);exact rfl;exact rfl)|((with_reducible apply aA.frz);exact rfl;exact rfl)|((with_reducible refine And.intro ?_ ?_);decide)));((refine And.intro ?_ ?_ <;> exact rfl))));(simp only [aF]))|((refine cY ?_ rfl rfl rfl ?_ ?_);(rotate_left 1);(focus ((repeat' (first|exact bJ|refine aZ ?_ ?_));(all_goals ((repeat' (first|simp only [*,go_sem,Nat.reduceLT,Nat.reduceEqDiff,↓reduceIte]|((with_reducible refine aS (zF6) ?_ ?_ ?_);exact rfl;exact rfl)|((with_reducible refine aS (TN _ _) ?_ ?_ ?_);exact rfl;exact rfl)));(try (exact rfl))))));(simp only [aF]))))))
theorem to_c {l:List Pr} {p:List UInt8} (hl:l.length≤1000000):aA Tryz.prog 274 [.c (.p (.sl 2 (qD l))),.c (.p (.s p))] [] fun r h=>r=.tup [.c (.p (.s ((toF l p).getD []))),.c (.p (.b (toF l p).isSome))]∧h=[]:=by
 refine ent aB aK Tryz.func274 rfl rfl fun X0 hX=>?_
 simp only [Tryz.f274,go_sem]
 repeat' (simp only [*,go_sem,Nat.reduceLT,Nat.reduceEqDiff,↓reduceIte])
 refine bC aB aK (α:=Nat) (fun k=>⟨21,[(1,.c (.p (.s p))),(8,.c (.p (.sl 2 (qD l)))),(9,.c (.p (.i .i64 l.length))),(10,.c (.p (.i .i64 k)))],[]⟩)
  (fun k=>k≤l.length∧toF (l.drop k) p=toF l p) (fun k=>l.length-k) 0 ⟨Nat.zero_le _,rfl⟩ (.inl (aJ (by rw [hX];rfl) rfl rfl (by simp [aI,aM,aD,aH,aG]))) ?_
 rintro k ⟨hk,hs⟩
 by_cases hlt:k<l.length
 ·have hx:l[k]? = some l[k]:=List.getElem?_eq_getElem hlt
  have hg:=PX hx
  have hd:=drop_at hx
  have h1:decide ((k:Int)<(l.length:Int))=true:=decide_eq_true (by omega)
  have hli:(k:Int)<(l.length:Int):=by omega
  have hk0:(0:Int)≤k:=by omega
  have w1:IntKind.i64.wrap ((k:Int)+1)=k+1:=wrap_i64 (by omega) (by omega)
  generalize l[k]=x at hx hg hd
  rw [hd,toF] at hs
  cases hb:(x.a == p)
  ·rw [hb,if_neg (by decide)] at hs
   have hJ:k+1≤l.length∧toF (l.drop (k+1)) p=toF l p:=⟨by omega,hs⟩
   clear hs hd hx
   repeat' (simp only [*,go_sem,Nat.reduceLT,Nat.reduceLeDiff,Nat.reduceEqDiff,↓reduceIte,Nat.reduceAdd])
   exact gL (k+1) hJ (by omega) (aJ rfl rfl rfl (by simp [aI,aM,aD,aH,aG]))
  ·rw [hb,if_pos rfl] at hs
   rw [← hs]
   clear hs hd hx
   repeat' (simp only [*,go_sem,Nat.reduceLT,Nat.reduceLeDiff,Nat.reduceEqDiff,↓reduceIte,Nat.reduceAdd,Option.getD_some,Option.isSome_some])
 ·have h1:decide ((k:Int)<(l.length:Int))=false:=decide_eq_false (by omega)
  rw [List.drop_of_length_le (by omega),toF] at hs
  rw [← hs]
  clear hs
  repeat' (simp only [*,go_sem,Nat.reduceLT,Nat.reduceEqDiff,↓reduceIte,Option.getD_none,Option.isSome_none])
end
end Go.Proofs.YtbpblnmhlhpebaaGreatDoor
namespace Go.Dm
open Go
section
variable {P:Program} {T:Tab} {X0:Ctx} {Q:Exit→DS→Prop}
theorem zEa {α:Type} {I:α→DS} {J:α→Prop} {s:DS} (y:α) (i id off len i2 id2 off2 len2:Nat) {x x2:PV} (h1:J y) (hl:look s.t i=.c (.own id off len)) (hp:RO s.h (.own id off len)=some x)
  (hl2:look ((i,.c (.p x))::s.t) i2=.c (.own id2 off2 len2)) (hp2:RO (sP s.h [id]) (.own id2 off2 len2)=some x2)
  (h3:YB X0.h.length ⟨s.n,(i2,.c (.p x2))::(i,.c (.p x))::s.t,sP (sP s.h [id]) [id2]⟩ (I y)):XE P X0 I J Q .normal s :=
 ⟨y,h1,fun _ _ h=>TE i id off len hl hp (TE i2 id2 off2 len2 hl2 hp2 (TS h3 h))⟩
end
end Go.Dm
namespace Go.Proofs.YtbpblnmhlhpebaaGreatDoor
open Go Go.Dm Go.Proofs
section
theorem zIG {h:aC} {id:Nat} {l:List Cf} (hid:h[id]? = some (.arr 2 (fS l) false)) (hsz:l.length<4611686018427387904):
  aA Tryz.prog 265 [.c (.own id 0 l.length),.c (.clo 266 [])] h fun d h'=>d=.tup []∧h'=h.set id (.arr 2 (fS (tR l)) false):=by
 have:=mY (P:=Tryz.prog) (f:=265) (g:=266) 2 (by decide) cfV zHx
  (enters Tryz.func265 rfl rfl) (enters_of Tryz.func266 (by kernel_rfl) rfl)
  (fun enc hk h1 c hO blk off cap d w hcmp hH hblk hsz=>Tryz.slices_SortFunc_f265 2 Tryz.isAgg221 Tryz.sizeOf221 enc hk h1 c hO 266 #[] blk off cap d w (enters_of Tryz.func266 (by kernel_rfl) rfl) hcmp hH hblk hsz)
  (fun p cap fv w=>Tryz.slices_SortFunc_none_f265 (α:=Nat) p cap fv w)
  (h:=h) (i0:=id) (es:=fS l) (fun x hx y hy=>by
   obtain ⟨a,_,rfl⟩:=List.mem_map.1 hx
   obtain ⟨b,_,rfl⟩:=List.mem_map.1 hy
   exact zC3) (zBP l) hid (by rw [wH];exact hsz)
 rw [zDZ,wH] at this
 exact this
theorem zGs {h:aC} {id n:Nat} {l:List Cf} {K:DV→aC→Prop} (hid:h[id]? = some (.arr 2 (fS l) false)) (hsz:l.length<4611686018427387904) (hn:n=l.length)
  (hk:K (.c (.own id 0 l.length)) (h.set id (.arr 2 (fS (tR l)) false))):aA Tryz.prog 198 [.c (.own id 0 n)] h K:=by
 subst hn
 have hs:=zIG hid hsz
 refine MZ aB aK Tryz.func198 rfl rfl fun X0 hX=>?_
 simp only [Tryz.f198,go_sem]
 repeat' (simp only [*,go_sem,Nat.reduceLT,Nat.reduceEqDiff,↓reduceIte])
 refine aA.mono hs ?_
 rintro _ _ ⟨rfl,rfl⟩
 repeat' (simp only [*,go_sem,Nat.reduceLT,Nat.reduceEqDiff,↓reduceIte])
end
end Go.Proofs.YtbpblnmhlhpebaaGreatDoor
namespace Go.Proofs.YtbpblnmhlhpebaaGreatDoor
open Go Go.Dm
section
theorem zGg {ts:List (List It)} (hl:ts.length≤3) (ht:∀ t∈ts,t.length≤120):
  aA Tryz.prog 196 [.c (.p (.sl 1 (ts.map fun t=>[.sl 5 (aV t)])))] [] fun r h=>r=.c (.p (.sl 1 (Go.Dm.encS (Lib.compact ((ts.flatten.map It.p).mergeSort fun x y=>decide (x≤y))))))∧h=[]:=by
 have hgen:(ts.map fun t=>[PV.sl 5 (aV t)]).length=ts.length:=List.length_map _
 have hone:(∀ x∈(ts.map fun t=>[PV.sl 5 (aV t)]),x.length=1)=True:=eq_true fun x hx=>by
  obtain ⟨t,_,rfl⟩:=List.mem_map.1 hx
  rfl
 have hat:∀ i t,ts[i]? = some t→(ts.map fun t=>[PV.sl 5 (aV t)]).getD i []=[.sl 5 (aV t)]:=fun i t h=>by
  simp only [List.getD_eq_getElem?_getD,List.getElem?_map,h];rfl
 generalize (ts.map fun t=>[PV.sl 5 (aV t)])=arg at *
 refine ent aB aK Tryz.func196 rfl rfl fun X0 hX=>?_
 simp only [Tryz.f196,go_sem]
 repeat' (simp only [*,go_sem,Nat.reduceLT,Nat.reduceEqDiff,↓reduceIte])
 refine iC aB aK 3 1 rfl ?_
 refine bC aB aK (α:=Nat × List (List UInt8)) (fun x=>⟨31,[(8,.c (.p (.sl 1 arg))),(9,.c (.p (.i .i64 ts.length))),(10,.c (.p (.i .i64 x.1))),(3,.c (.own 0 0 x.2.length))],[.arr 1 (Go.Dm.encS x.2) false]⟩)
  (fun x=>x.1≤ts.length∧x.2.length≤120*x.1∧(ts.take x.1).flatten.map It.p=x.2) (fun x=>ts.length-x.1) (0,[]) ⟨Nat.zero_le _,Nat.le_refl _,rfl⟩ (.inl (aJ (by rw [hX];rfl) rfl rfl (by simp [aI,aM,aD,aH,aG,rP]))) ?_
 rintro ⟨i,out⟩ ⟨hi,hol,hJ⟩
 simp only at hi hol hJ
 by_cases hlt:i<ts.length
 ·have hx:ts[i]? = some ts[i]:=List.getElem?_eq_getElem hlt
  have hg:=hat _ _ hx
  have h1:decide ((i:Int)<(ts.length:Int))=true:=decide_eq_true (by omega)
  have hli:(i:Int)<(ts.length:Int):=by omega
  have w1:IntKind.i64.wrap ((i:Int)+1)=i+1:=wrap_i64 (by omega) (by omega)
  have htl:=ht _ (List.getElem_mem hlt)
  have hnext:(ts.take (i+1)).flatten.map It.p=out++ts[i].map It.p:=by
   rw [List.take_add_one,hx,List.flatten_append,List.map_append,hJ];simp
  generalize ts[i]=t at hx hg htl hnext
  clear hat hx hJ
  repeat' (first|simp only [*,go_sem,Nat.reduceLT,Nat.reduceEqDiff,↓reduceIte]|((with_reducible refine And.intro ?_ ?_);omega))
  refine bC aB aK (α:=Nat × List (List UInt8)) (fun x=>⟨31,[(8,.c (.p (.sl 1 arg))),(9,.c (.p (.i .i64 ts.length))),(10,.c (.p (.i .i64 i))),(14,.c (.p (.sl 5 (aV t)))),(15,.c (.p (.i .i64 t.length))),(16,.c (.p (.i .i64 x.1))),(3,.c (.own 0 0 x.2.length))],[.arr 1 (Go.Dm.encS x.2) false]⟩)
   (fun x=>x.1≤t.length∧x.2.length≤120*i+x.1∧out++(t.take x.1).map It.p=x.2) (fun x=>t.length-x.1) (0,out) ⟨Nat.zero_le _,hol,by simp⟩ (.inl (aJ (by rw [hX];rfl) rfl rfl (by simp [aI,aM,aD,aH,aG]))) ?_
  rintro ⟨k,o⟩ ⟨hk,hok,hK⟩
  simp only at hk hok hK
  by_cases hkl:k<t.length
  ·have hy:t[k]? = some t[k]:=List.getElem?_eq_getElem hkl
   have hg2:=cZ hy
   have h2:decide ((k:Int)<(t.length:Int))=true:=decide_eq_true (by omega)
   have w2:IntKind.i64.wrap ((k:Int)+1)=k+1:=wrap_i64 (by omega) (by omega)
   have hn2:out++(t.take (k+1)).map It.p=o++[t[k].p]:=by
    rw [List.take_add_one,hy,List.map_append,← List.append_assoc,hK];rfl
   generalize t[k]=y at hy hg2 hn2
   have hJ2:k+1≤t.length∧(o++[y.p]).length≤120*i+(k+1)∧out++(t.take (k+1)).map It.p=o++[y.p]:=⟨by omega,by simp;omega,hn2⟩
   have hb:o.length≤1000000:=by omega
   clear hy hnext hK hn2
   repeat' (first|simp only [*,go_sem,Nat.reduceLT,Nat.reduceLeDiff,Nat.reduceEqDiff,↓reduceIte,Nat.reduceAdd,Nat.reduceBEq]|((with_reducible refine And.intro ?_ ?_);((first|omega|decide))))
   exact jU (k+1,o++[y.p]) 0 3 hJ2 (by simp only;omega) rfl rfl (aJ rfl rfl rfl (by simp [aI,aM,aD,aH,aG,GF,DF,DN]))
  ·have h2:decide ((k:Int)<(t.length:Int))=false:=decide_eq_false (by omega)
   rw [List.take_of_length_le (by omega),← hnext] at hK
   have hJ2:i+1≤ts.length∧o.length≤120*(i+1)∧(ts.take (i+1)).flatten.map It.p=o:=⟨by omega,by omega,hK⟩
   clear hnext hK
   repeat' (simp only [*,go_sem,Nat.reduceLT,Nat.reduceEqDiff,↓reduceIte])
   exact gL (i+1,o) hJ2 (by simp only;omega) (aJ rfl rfl rfl (by simp [aI,aM,aD,aH,aG]))
 ·have h1:decide ((i:Int)<(ts.length:Int))=false:=decide_eq_false (by omega)
  rw [List.take_of_length_le (by omega)] at hJ
  have hol2:out.length≤360:=by omega
  rw [hJ]
  clear hJ hat
  have hsl:(out.mergeSort fun x y=>decide (x≤y)).length=out.length:=List.length_mergeSort ..
  repeat' (first|simp only [*,go_sem,Nat.reduceLT,Nat.reduceEqDiff,↓reduceIte,List.set_cons_zero]|refine sort_k (id:=0) (ss:=out) (by rfl) (by omega) ?_|refine LK (id:=0) (ss:=out.mergeSort fun x y=>decide (x≤y)) (by rfl) (by omega) (by omega) ?_)
  all_goals (try rw [List.take_left' (by simp)])
theorem zIV {h:aC} {n:Nat} (hn:n≤1000000000):
  aA Tryz.prog 270 [.c (.p .nil),.c (.p (.i .i64 n))] h fun d h'=>d=.c (.own h.length 0 0)∧h'=h++[.arr 2 [] false]:=by
 have:=mA (n:=n) (h:=h) (e:=221) aB (by rw [tab221];exact fun h=>by cases h) (by rw [tab221];decide) (enters Tryz.func270 rfl rfl)
  (fun w=>Any8.slices_Grow_room Tryz.growConf none 0 0 0 w (Nat.le_refl _) (by decide) (by decide) (Nat.le_refl _))
  (fun i0 z n w h1 h2 h3 h4 h5 h6=>by
   have:=Any8.slices_Grow_grow Tryz.growConf i0 z h1 h2 h3 none 0 0 n [] w (Nat.le_refl _) (by omega) (by simpa using h5) (by simpa using h6) (by simp) (fun _=>rfl) (fun a ha=>by cases ha)
   simp only [Nat.zero_add,Nat.sub_zero] at this
   exact this)
  (by rw [tab221];simp only;omega) (by omega)
 rw [tab221] at this
 exact this
theorem zDF {a b c:List Cf} (ha:a.length≤1000000) (hb:b.length≤1000000) (hc:c.length≤1000000):
  aA Tryz.prog 199 [.c (.p (.sl 1 [[.sl 2 (fS a)],[.sl 2 (fS b)],[.sl 2 (fS c)]]))] [] fun r h=>r=.c (.own 0 0 (a.length+b.length+c.length))∧h=[.arr 2 (fS (a++(b++c))) false]:=by
 have w1:IntKind.i64.wrap (a.length:Int)=a.length:=wrap_i64 (by omega) (by omega)
 have w2:IntKind.i64.wrap ((a.length:Int)+(b.length:Int))=(a.length+b.length:Nat):=wrap_i64 (by omega) (by omega)
 have w3:IntKind.i64.wrap (((a.length+b.length:Nat):Int)+(c.length:Int))=(a.length+b.length+c.length:Nat):=wrap_i64 (by omega) (by omega)
 have z1:decide ((a.length:Int)<0)=false:=decide_eq_false (by omega)
 have z2:decide (((a.length+b.length:Nat):Int)<0)=false:=decide_eq_false (by omega)
 have z3:decide (((a.length+b.length+c.length:Nat):Int)<0)=false:=decide_eq_false (by omega)
 refine zLX aB aK Tryz.func199 rfl rfl fun X0 hX=>?_
 simp only [Tryz.f199,go_sem]
 repeat' (first|simp only [*,go_sem,Nat.reduceLT,Nat.reduceEqDiff,↓reduceIte,Nat.reduceAdd,Int.reduceLT,Int.reduceLE,Int.reduceAdd,Int.reduceToNat,Int.zero_add,kC,decide_true,decide_false]|refine fT aB aK 4 ?_)
 refine (zIV (n:=a.length+b.length+c.length) (by omega)).mono ?_
 rintro d h' ⟨rfl,rfl⟩
 repeat' (first|simp only [*,go_sem,Nat.reduceLT,Nat.reduceLeDiff,Nat.reduceEqDiff,↓reduceIte,Nat.reduceAdd,Int.reduceLT,Int.reduceLE,Int.reduceAdd,Int.reduceToNat,Int.zero_add,kC,decide_true,decide_false]|refine fT aB aK 4 ?_|((with_reducible refine And.intro ?_ ?_);omega))
 try rw [List.append_assoc]
 exact ⟨rfl,Nat.zero_le _,rfl,_,_,rfl,rfl,rfl⟩
theorem zAm {c d q:List UInt8} {kk k m:Int} {tt:Nat} {dd:List UInt8} {eo:List (List PV)}:
  aA Tryz.prog 272 [.agg [.p (.s c),.p (.i .i64 kk)],.c (.ptr 2 0)] [.arr 2 eo false,.box [.p (.s q),.p (.i .i64 k),.p (.i .i64 m),.p (.f tt),.p (.sl 1 (cB dd))],.box [.p (.s d)]]
   fun r h=>r=.c (.p (.b (c == d)))∧h=[.arr 2 eo false,.box [.p (.s q),.p (.i .i64 k),.p (.i .i64 m),.p (.f tt),.p (.sl 1 (cB dd))],.box [.p (.s d)]]:=by
 refine ent aB aK Tryz.func272 rfl rfl fun X0 hX=>?_
 simp only [Tryz.f272,go_sem]
 repeat' (simp only [*,go_sem,Nat.reduceLT,Nat.reduceEqDiff,↓reduceIte,Nat.reduceAdd,bV,aG])
theorem zD5 {l:List Cf} {d q:List UInt8} {k m:Int} {tt:Nat} {dd:List UInt8} {eo:List (List PV)} (hl:l.length≤1000000):
  aA Tryz.prog 335 [.c (.p (.sl 2 (fS l))),.c (.clo 272 [.ptr 2 0])] [.arr 2 eo false,.box [.p (.s q),.p (.i .i64 k),.p (.i .i64 m),.p (.f tt),.p (.sl 1 (cB dd))],.box [.p (.s d)]]
   fun r h=>(∃ z:Int,decide (0≤z)=(l.any fun c=>c.p == d)∧r=.c (.p (.i .i64 z)))∧h=[.arr 2 eo false,.box [.p (.s q),.p (.i .i64 k),.p (.i .i64 m),.p (.f tt),.p (.sl 1 (cB dd))],.box [.p (.s d)]]:=by
 refine ent aB aK Tryz.func335 rfl rfl fun X0 hX=>?_
 simp only [Tryz.f335,go_sem]
 repeat' (simp only [*,go_sem,Nat.reduceLT,Nat.reduceEqDiff,↓reduceIte,Nat.reduceAdd,Int.reduceNeg])
 refine bC aB aK (α:=Nat) (fun k'=>⟨19,[(0,.c (.p (.sl 2 (fS l)))),(1,.c (.clo 272 [.ptr 2 0])),(7,.c (.p (.i .i64 l.length))),(8,.c (.p (.i .i64 k')))],[.arr 2 eo false,.box [.p (.s q),.p (.i .i64 k),.p (.i .i64 m),.p (.f tt),.p (.sl 1 (cB dd))],.box [.p (.s d)]]⟩)
  (fun k=>k≤l.length∧((l.drop k).any fun c=>c.p == d)=(l.any fun c=>c.p == d)) (fun k=>l.length-k) 0 ⟨Nat.zero_le _,rfl⟩ (.inl (aJ (by rw [hX];rfl) rfl rfl (by simp [aI,aM,aD,aH,aG,cI]))) ?_
 rintro j ⟨hk,hs⟩
 by_cases hlt:j<l.length
 ·have hx:l[j]? = some l[j]:=List.getElem?_eq_getElem hlt
  have hg:=zJn hx
  have hd:=drop_at hx
  have h1:decide ((j:Int)<(l.length:Int))=true:=decide_eq_true (by omega)
  have hli:(j:Int)<(l.length:Int):=by omega
  have w1:IntKind.i64.wrap ((j:Int)+1)=j+1:=wrap_i64 (by omega) (by omega)
  generalize l[j]=x at hx hg hd
  rw [hd,List.any_cons] at hs
  cases hb:(x.p == d)
  ·rw [hb,Bool.false_or] at hs
   have hs2:j+1≤l.length∧((l.drop (j+1)).any fun c=>c.p == d)=(l.any fun c=>c.p == d):=⟨by omega,hs⟩
   clear hs hd hx
   repeat' (first|simp only [*,go_sem,Nat.reduceLT,Nat.reduceLeDiff,Nat.reduceEqDiff,↓reduceIte,Nat.reduceAdd,Int.reduceNeg]|((with_reducible refine And.intro ?_ ?_);omega))
   refine aA.mono zAm ?_
   rintro _ _ ⟨rfl,rfl⟩
   rw [hb]
   repeat' (simp only [*,go_sem,Nat.reduceLT,Nat.reduceEqDiff,↓reduceIte,Int.reduceNeg])
   exact gL (j+1) hs2 (by omega) (aJ rfl rfl rfl (by simp [aI,aM,aD,aH,aG,cI]))
  ·rw [hb,Bool.true_or] at hs
   have hs2:PLift ((l.any fun c=>c.p == d)=true):=⟨hs.symm⟩
   clear hs hd hx
   repeat' (first|simp only [*,go_sem,Nat.reduceLT,Nat.reduceLeDiff,Nat.reduceEqDiff,↓reduceIte,Nat.reduceAdd,Int.reduceNeg]|((with_reducible refine And.intro ?_ ?_);omega))
   refine aA.mono zAm ?_
   rintro _ _ ⟨rfl,rfl⟩
   rw [hb]
   clear hb
   repeat' (simp only [*,go_sem,Nat.reduceLT,Nat.reduceEqDiff,↓reduceIte,Int.reduceNeg,bV,aG])
   exact ⟨j,by rw [hs2.down];exact decide_eq_true (by omega),rfl⟩
 ·have h1:decide ((j:Int)<(l.length:Int))=false:=decide_eq_false (by omega)
  rw [List.drop_of_length_le (by omega),List.any_nil] at hs
  have hs2:PLift ((l.any fun c=>c.p == d)=false):=⟨hs.symm⟩
  clear hs
  repeat' (simp only [*,go_sem,Nat.reduceLT,Nat.reduceEqDiff,↓reduceIte,Nat.reduceAdd,Int.reduceNeg,bV,aG])
  refine ⟨-1,by rw [hs2.down];decide,?_⟩
  first|rfl|trivial
theorem NH {l:List Cf} {d q:List UInt8} {k m:Int} {tt:Nat} {dd:List UInt8} {eo:List (List PV)} {K:DV→aC→Prop} (hl:l.length≤1000000)
  (hk:K (.c (.p (.b (l.any fun c=>c.p == d)))) [.arr 2 eo false,.box [.p (.s q),.p (.i .i64 k),.p (.i .i64 m),.p (.f tt),.p (.sl 1 (cB dd))],.box [.p (.s d)]]):
  aA Tryz.prog 271 [.c (.p (.sl 2 (fS l))),.c (.clo 272 [.ptr 2 0])] [.arr 2 eo false,.box [.p (.s q),.p (.i .i64 k),.p (.i .i64 m),.p (.f tt),.p (.sl 1 (cB dd))],.box [.p (.s d)]] K:=by
 have hi:=zD5 (l:=l) (d:=d) (q:=q) (k:=k) (m:=m) (tt:=tt) (dd:=dd) (eo:=eo) hl
 generalize (l.any fun c=>c.p == d)=b at hi hk
 refine MZ aB aK Tryz.func271 rfl rfl fun X0 hX=>?_
 simp only [Tryz.f271,go_sem]
 repeat' (simp only [*,go_sem,Nat.reduceLT,Nat.reduceEqDiff,↓reduceIte])
 refine aA.mono hi ?_
 rintro _ _ ⟨⟨z,hz,rfl⟩,rfl⟩
 repeat' (simp only [*,go_sem,Nat.reduceLT,↓reduceIte])
end
section
theorem zGH {l:List Pr} {p:List UInt8} (hl:l.length≤1000000):aA Tryz.prog 336 [.c (.own 0 0 l.length),.c (.p (.s p))] [.arr 2 (qD l) false] fun r h=>r=.c (.p (.b (nG l p)))∧h=[.arr 2 (qD l) false]:=by
 refine ent aB aK Tryz.func336 rfl rfl fun X0 hX=>?_
 simp only [Tryz.f336,go_sem]
 repeat' (simp only [*,go_sem,Nat.reduceLT,Nat.reduceEqDiff,↓reduceIte])
 refine bC aB aK (α:=Nat) (fun k=>⟨18,[(1,.c (.p (.s p))),(7,.c (.own 0 0 l.length)),(8,.c (.p (.i .i64 l.length))),(9,.c (.p (.i .i64 k)))],[.arr 2 (qD l) false]⟩)
  (fun k=>k≤l.length∧nG (l.drop k) p=nG l p) (fun k=>l.length-k) 0 ⟨Nat.zero_le _,rfl⟩ (.inl (aJ (by rw [hX];rfl) rfl rfl (by simp [aI,aM,aD,aH,aG]))) ?_
 rintro k ⟨hk,hs⟩
 by_cases hlt:k<l.length
 ·have hx:l[k]? = some l[k]:=List.getElem?_eq_getElem hlt
  have hg:=PX hx
  have hd:=drop_at hx
  have h1:decide ((k:Int)<(l.length:Int))=true:=decide_eq_true (by omega)
  have hli:(k:Int)<(l.length:Int):=by omega
  have hk0:(0:Int)≤k:=by omega
  have w1:IntKind.i64.wrap ((k:Int)+1)=k+1:=wrap_i64 (by omega) (by omega)
  generalize l[k]=x at hx hg hd
  rw [hd] at hs
  unfold nG at hs
  rw [List.any_cons] at hs
  cases hb:(x.b == p)
  ·rw [hb,Bool.false_or] at hs
   have hJ:k+1≤l.length∧nG (l.drop (k+1)) p=nG l p:=⟨by omega,hs⟩
   clear hs hd hx
   repeat' (simp only [*,go_sem,Nat.reduceLT,Nat.reduceLeDiff,Nat.reduceEqDiff,↓reduceIte,Nat.reduceAdd])
   exact gL (k+1) hJ (by omega) (aJ rfl rfl rfl (by simp [aI,aM,aD,aH,aG]))
  ·rw [hb,Bool.true_or] at hs
   have hJ:nG l p=true:=hs.symm
   rw [hJ]
   clear hs hd hx hJ
   repeat' (simp only [*,go_sem,Nat.reduceLT,Nat.reduceLeDiff,Nat.reduceEqDiff,↓reduceIte,Nat.reduceAdd])
 ·have h1:decide ((k:Int)<(l.length:Int))=false:=decide_eq_false (by omega)
  rw [List.drop_of_length_le (by omega)] at hs
  have hJ:nG l p=false:=hs.symm
  rw [hJ]
  clear hs hJ
  repeat' (simp only [*,go_sem,Nat.reduceLT,Nat.reduceEqDiff,↓reduceIte])
theorem zCt {h:aC} {i n:Nat} {l:List Pr} {p:List UInt8} {K:DV→aC→Prop} (hl:l.length≤1000000) (h0:h[i]? = some (.arr 2 (qD l) false)) (hn:n=l.length) (hk:K (.c (.p (.b (nG l p)))) h):
  aA Tryz.prog 336 [.c (.own i 0 n),.c (.p (.s p))] h K:=by
 subst hn
 exact aA.lent (i:=i) [none,some (.s p)] (zGH hl) h0 rfl hk
theorem zA2 {l:List Ch} (hl:l.length≤1000000) (hp:∀ x∈l,x.p.length≤1000000000∧x.o.t<18446744073709551616∧x.n.t<18446744073709551616):
  aA Tryz.prog 273 [.c (.p (.sl 10 (oJ l)))] [] fun r h=>r=.c (.p (.sl 2 (qD (dE l))))∧h=[]:=by
 refine aX ?_
 have hr:=JH hl hp
 unfold dE
 clear hp
 cases hrc:mH l
 ·rw [hrc] at hr
  refine ent aB aK Tryz.func273 rfl rfl fun X0 hX=>?_
  simp only [Tryz.f273,go_sem]
  repeat' (first|simp only [*,go_sem,Nat.reduceLT,Nat.reduceEqDiff,↓reduceIte]|((with_reducible refine aS (hr) ?_ ?_ ?_);exact rfl;exact rfl))
  all_goals first|rfl|simp
 ·rw [hrc] at hr
  rw [if_pos rfl]
  refine ent aB aK Tryz.func273 rfl rfl fun X0 hX=>?_
  simp only [Tryz.f273,go_sem]
  repeat' (first|simp only [*,go_sem,Nat.reduceLT,Nat.reduceEqDiff,↓reduceIte]|((with_reducible refine aS (hr) ?_ ?_ ?_);exact rfl;exact rfl))
  refine iC aB aK 3 2 rfl ?_
  refine bC aB aK (α:=Nat × List Pr) (fun x=>⟨68,[(0,.c (.p (.sl 10 (oJ l)))),(11,.c (.p (.sl 10 (oJ l)))),(12,.c (.p (.i .i64 l.length))),(13,.c (.p (.i .i64 x.1))),(3,.c (.own 0 0 x.2.length))],[.arr 2 (qD x.2) false]⟩)
   (fun x=>x.1≤l.length∧x.2.length≤x.1∧(l.drop x.1).foldl (fR l) x.2=sH l) (fun x=>l.length-x.1) (0,[]) ⟨Nat.zero_le _,Nat.le_refl _,rfl⟩ (.inl (aJ (by rw [hX];rfl) rfl rfl (by simp [aI,aM,aD,aH,aG]))) ?_
  clear hr
  rintro ⟨i,out⟩ ⟨hi,hol,hJ⟩
  simp only at hi hol hJ
  by_cases hlt:i<l.length
  ·have hx:l[i]? = some l[i]:=List.getElem?_eq_getElem hlt
   have hg:=zC hx
   have hd:=drop_at hx
   have h1:decide ((i:Int)<(l.length:Int))=true:=decide_eq_true (by omega)
   have hli:(i:Int)<(l.length:Int):=by omega
   have hi0:(0:Int)≤i:=by omega
   have w1:IntKind.i64.wrap ((i:Int)+1)=i+1:=wrap_i64 (by omega) (by omega)
   generalize l[i]=x at hx hg hd
   rw [hd,List.foldl_cons,fR] at hJ
   have n1:(x.k != 2) = !(x.k == 2):=rfl
   have n2:(x.o.k != 1) = !(x.o.k == 1):=rfl
   rw [n1,n2] at hJ
   clear hx hd
   cases q1:(x.k == 2)
   ·rw [q1] at hJ n1
    have hJ2:i+1≤l.length∧out.length≤i+1∧(l.drop (i+1)).foldl (fR l) out=sH l:=⟨by omega,by omega,by simpa using hJ⟩
    clear hJ
    repeat' (simp only [*,go_sem,Nat.reduceLT,Nat.reduceLeDiff,Nat.reduceEqDiff,↓reduceIte,Nat.reduceAdd,Bool.not_false])
    exact gL (i+1,out) hJ2 (by simp only;omega) (aJ rfl rfl rfl (by simp [aI,aM,aD,aH,aG]))
   ·cases q2:(x.o.k == 1)
    ·rw [q1,q2] at hJ
     rw [q1] at n1
     rw [q2] at n2
     have hJ2:i+1≤l.length∧out.length≤i+1∧(l.drop (i+1)).foldl (fR l) out=sH l:=⟨by omega,by omega,by simpa using hJ⟩
     clear hJ
     repeat' (simp only [*,go_sem,Nat.reduceLT,Nat.reduceLeDiff,Nat.reduceEqDiff,↓reduceIte,Nat.reduceAdd,Bool.not_false,Bool.not_true])
     exact gL (i+1,out) hJ2 (by simp only;omega) (aJ rfl rfl rfl (by simp [aI,aM,aD,aH,aG]))
    ·rw [q1,q2,Bool.not_true,Bool.or_false,if_neg (by decide)] at hJ
     rw [q1] at n1
     rw [q2] at n2
     have hJ2:=PLift.up hJ
     clear hJ
     repeat' (simp only [*,go_sem,Nat.reduceLT,Nat.reduceLeDiff,Nat.reduceEqDiff,↓reduceIte,Nat.reduceAdd,Bool.not_true])
     refine bC aB aK (α:=Nat) (fun k=>⟨68,[(0,.c (.p (.sl 10 (oJ l)))),(11,.c (.p (.sl 10 (oJ l)))),(12,.c (.p (.i .i64 l.length))),(13,.c (.p (.i .i64 i))),(3,.c (.own 0 0 out.length)),(5,.c (.ptr 1 0)),(26,.c (.p (.sl 10 (oJ l)))),(27,.c (.p (.i .i64 l.length))),(28,.c (.p (.i .i64 k)))],
       [.arr 2 (qD out) false,.box [.p (.s x.p),.p (.i .i64 x.k),.p (.i .i64 x.o.k),.p (.i .i64 x.o.m),.p (.f x.o.t),.p (.sl 1 (cB x.o.d)),.p (.i .i64 x.n.k),.p (.i .i64 x.n.m),.p (.f x.n.t),.p (.sl 1 (cB x.n.d))]]⟩)
      (fun k=>k≤l.length∧rD x.o.d out (l.drop k)=rD x.o.d out l) (fun k=>l.length-k) 0 ⟨Nat.zero_le _,rfl⟩ (.inl (aJ (by rw [hX];rfl) rfl rfl (by simp [aI,aM,aD,aH,aG]))) ?_
     rintro k ⟨hk,hs⟩
     by_cases hkl:k<l.length
     ·have hy:l[k]? = some l[k]:=List.getElem?_eq_getElem hkl
      have hg2:=zC hy
      have hd2:=drop_at hy
      have h2:decide ((k:Int)<(l.length:Int))=true:=decide_eq_true (by omega)
      have hli2:(k:Int)<(l.length:Int):=by omega
      have hk0:(0:Int)≤k:=by omega
      have w2:IntKind.i64.wrap ((k:Int)+1)=k+1:=wrap_i64 (by omega) (by omega)
      generalize l[k]=y at hy hg2 hd2
      rw [hd2,rD] at hs
      clear hy hd2
      have hob:out.length≤1000000:=by omega
      cases c1:(y.k == 1) <;> cases c2:(y.n.k == 1) <;> cases c3:(x.o.d == y.n.d) <;> cases c4:nG out y.p
      all_goals rw [c1,c2,c3,c4] at hs
      case true.true.true.false =>
       rw [if_pos (by decide)] at hs
       have hJ3:=hJ2.down
       rw [← hs] at hJ3
       have hJ4:i+1≤l.length∧(out++[(⟨x.p,y.p⟩:Pr)]).length≤i+1∧(l.drop (i+1)).foldl (fR l) (out++[(⟨x.p,y.p⟩:Pr)])=sH l:=⟨by omega,by simp;omega,hJ3⟩
       clear hs hJ2 hJ3
       repeat' (first|simp only [*,go_sem,Nat.reduceLT,Nat.reduceLeDiff,Nat.reduceEqDiff,↓reduceIte,Nat.reduceAdd,Nat.reduceMul,Nat.reduceBEq,Bool.not_false]|((with_reducible refine aS (hZ) ?_ ?_ ?_);exact rfl;exact rfl)|refine zCt hob rfl rfl ?_|((with_reducible refine And.intro ?_ ?_);((first|omega|decide))))
       exact jU (i+1,out++[⟨x.p,y.p⟩]) 0 4 hJ4 (by simp only;omega) rfl rfl (aJ rfl rfl rfl (by simp [aI,aM,aD,aH,aG,GF,DF,DN]))
      all_goals
       rw [if_neg (by decide)] at hs
       have hs2:k+1≤l.length∧rD x.o.d out (l.drop (k+1))=rD x.o.d out l:=⟨by omega,hs⟩
       clear hs hJ2
       repeat' (first|simp only [*,go_sem,Nat.reduceLT,Nat.reduceLeDiff,Nat.reduceEqDiff,↓reduceIte,Nat.reduceAdd,Bool.not_true]|((with_reducible refine aS (hZ) ?_ ?_ ?_);exact rfl;exact rfl)|refine zCt hob rfl rfl ?_)
       exact gL (k+1) hs2 (by omega) (aJ rfl rfl rfl (by simp [aI,aM,aD,aH,aG]))
     ·have h2:decide ((k:Int)<(l.length:Int))=false:=decide_eq_false (by omega)
      rw [List.drop_of_length_le (by omega),rD] at hs
      have hJ3:=hJ2.down
      rw [← hs] at hJ3
      have hJ4:i+1≤l.length∧out.length≤i+1∧(l.drop (i+1)).foldl (fR l) out=sH l:=⟨by omega,by omega,hJ3⟩
      clear hs hJ2 hJ3
      repeat' (simp only [*,go_sem,Nat.reduceLT,Nat.reduceEqDiff,↓reduceIte])
      exact gL (i+1,out) hJ4 (by simp only;omega) (aJ rfl rfl rfl (by simp [aI,aM,aD,aH,aG]))
  ·have h1:decide ((i:Int)<(l.length:Int))=false:=decide_eq_false (by omega)
   rw [List.drop_of_length_le (by omega),List.foldl_nil] at hJ
   rw [← hJ]
   clear hJ
   repeat' (simp only [*,go_sem,Nat.reduceLT,Nat.reduceEqDiff,↓reduceIte])
   all_goals first|rfl|(rw [List.take_of_length_le (by simp)])|simp
end
end Go.Proofs.YtbpblnmhlhpebaaGreatDoor
