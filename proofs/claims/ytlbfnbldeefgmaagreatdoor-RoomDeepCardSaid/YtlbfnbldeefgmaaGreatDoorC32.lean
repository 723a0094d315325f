/- Part 33 of the proof of roomDeep_card, set without needless blanks. No condition. -/
import Derived.Test.YtlbfnbldeefgmaaGreatDoorC31
set_option linter.all false
section
namespace Go.Proofs.YtlbfnbldeefgmaaGreatDoor
open Go Go.Dm Go.Proofs
set_option maxRecDepth 100000
set_option maxHeartbeats 8000000
theorem KF {ls:List (List En)} (hls:ls.length≤1000) (h:∀ l∈ls,OkE l):
  aA Tryz.prog 171 [.c (.p (.sl 1 (uU ls)))] [] fun r h=>r=.tup [.c (.p (.sl 5 (aZ (lV [] ls).1))),.c (.p (.b (lV [] ls).2))]∧h=[]:=by
 refine bN ?_;refine ent aC aK Tryz.func171 rfl rfl fun X0 hX=>?_;simp only [Tryz.f171,go_sem]
 repeat' (simp only [*,go_sem,Nat.reduceLT,Nat.reduceEqDiff,↓reduceIte,])
 refine zKn 4 5 rfl ?_;refine bQ aC aK (α:=Nat × List It) (fun x=>⟨25,[(8,.c (.p (.sl 1 (uU ls)))),(9,.c (.p (.i .i64 ls.length))),(10,.c (.p (.i .i64 x.1))),(4,.c (.p (.sl 5 (aZ x.2))))],[]⟩)
  (fun x=>x.1≤ls.length∧OkT x.2∧lV x.2 (ls.drop x.1)=lV [] ls) (fun x=>ls.length-x.1) (0,[]) ⟨Nat.zero_le _,OkT.nil,rfl⟩ (.inl (aJ (by rw [hX];rfl) rfl rfl (by simp [aH,aN,aD,aL,aG,BI,]))) ?_
 rintro ⟨k,t⟩ ⟨hk,ht,hf⟩;simp only at hk ht hf;by_cases hlt:k<ls.length
 ·have hx:ls[k]? = some ls[k]:=List.getElem?_eq_getElem hlt;have hg:=zGw hx;have hd:=drop_at hx;have h1:decide ((k:Int)<(ls.length:Int))=true:=decide_eq_true (by omega);have w1:IntKind.i64.wrap ((k:Int)+1)=k+1:=wrap_i64 (by omega) (by omega);have hl:=h _ (List.getElem_mem hlt);generalize ls[k]=l at hx hg hd hl;rw [hd,lV] at hf;have hov:=LO ht hl;have hok:=fun h0=>zEr ht hl h0;generalize (oF t l).1=u at hov hok hf;generalize (oF t l).2=b at hov hok hf;clear hd hx;cases b
  ·rw [if_neg (by decide)] at hf;rw [← hf];clear hf hok
   repeat' (first|simp only [*,go_sem,Nat.reduceLT,Nat.reduceEqDiff,↓reduceIte,Bool.not_false]|((with_reducible refine cH (hov) ?_ ?_ ?_);exact rfl;exact fun _=>rfl)|((with_reducible refine And.intro ?_ ?_);omega))
   all_goals exact .inr ⟨_,rfl⟩
  ·rw [if_pos rfl] at hf;have hu:=hok rfl;have hF:=PLift.up hf;clear hf hok
   repeat' (first|simp only [*,go_sem,Nat.reduceLT,Nat.reduceEqDiff,↓reduceIte,Bool.not_true]|((with_reducible refine cH (hov) ?_ ?_ ?_);exact rfl;exact fun _=>rfl)|((with_reducible refine And.intro ?_ ?_);omega))
   exact jC (k+1,u) ⟨by simp only;omega,hu,hF.down⟩ (by simp only;omega) (aJ rfl rfl rfl (by simp [aH,aN,aD,aL,aG,]))
 ·have h1:decide ((k:Int)<(ls.length:Int))=false:=decide_eq_false (by omega);rw [List.drop_of_length_le (by omega),lV] at hf;rw [← hf];have hdl:∀ x∈t,x.n.d.length≤140737488355328:=fun x hx=>Nat.le_trans (ht.dlen x hx) (by decide);have htl:=ht.len;clear hf
  repeat' (first|simp only [*,go_sem,Nat.reduceLT,Nat.reduceEqDiff,↓reduceIte,]|refine uG (by omega) hdl ?_)
end Go.Proofs.YtlbfnbldeefgmaaGreatDoor
end
section
namespace Go.Proofs.YtlbfnbldeefgmaaGreatDoor
open Go Go.Dm Go.Proofs
set_option maxRecDepth 100000
set_option maxHeartbeats 8000000
theorem zGB {h:aB} {i n:Nat} {l:List Ly} {a:Int} {K:DV→aB→Prop} (hl:l.length≤1000000) (hn:n=l.length) (h0:h[i]? = some (.arr 4 (cY l) false)) (hk:K (.tup [.agg ((eA l a).getD ly0).cv,.c (.p (.b (eA l a).isSome))]) h):
  aA Tryz.prog 97 [.c (.own i 0 n),.c (.p (.i .i64 a))] h K :=
 VS rfl (by rw [hn,← fN,List.take_length]) (BK hl) h0 (fun d hd=>by subst hd;exact ⟨rfl,hk⟩)
theorem oL {r:Rm} {s:List UInt8} (hr:OkR r):aA Tryz.prog 42 [.c (.ptr 0 0),.c (.p (.s s))] (cB r) fun d h=>d=.tup [.agg (cU r s).1.cv,.c (.p (.i .i64 (cU r s).2))]∧h=cB r:=by
 have hf:=rQ (r:=r) (s:=s) (Nat.le_trans hr.nl (by decide)) hr.srt;have hl:=hr.ll;rcases zBb hr.srt (s:=s) with ⟨h1,h2⟩|⟨x,h1,h2,h3,h4⟩
 ·rw [h1] at hf;rw [show cU r s=(ly0,6) by unfold cU;rw [h2]]
  clear h1 h2;refine ent aC aK Tryz.func42 rfl rfl fun X0 hX=>?_;simp only [Tryz.f42,go_sem]
  repeat' (first|simp only [*,go_sem,Nat.reduceLT,Nat.reduceLeDiff,Nat.reduceEqDiff,↓reduceIte,Nat.reduceAdd,Bool.not_false]|((with_reducible refine aS [0,1,2,3] (hf) ?_ ?_ ?_ ?_);exact rfl;exact rfl;(focus ((simp only [go_sem];done)))))
  all_goals simp [ly0]
 ·rw [h1] at hf;rw [show cU r s=((eA r.L x.l).getD ly0,0) by unfold cU;rw [h2]]
  have hlt:=(List.getElem?_eq_some_iff.1 h3).1;have hg:=nA h3;have k2:(0:Int)≤(oE r.N s:Int):=by omega
  have k3:(oE r.N s:Int)<(r.N.length:Int):=by omega
  clear h1 h2 h3 h4;obtain ⟨y,hy⟩:∃ y,(eA r.L x.l).getD ly0=y:=⟨_,rfl⟩;have hk:∀ {h:aB} {i:Nat} {K:DV→aB→Prop},h[i]? = some (.arr 4 (cY r.L) false)→K (.tup [.agg y.cv,.c (.p (.b (eA r.L x.l).isSome))]) h→aA Tryz.prog 97 [.c (.own i 0 r.L.length),.c (.p (.i .i64 x.l))] h K:=fun h0 hk=>zGB (by omega) rfl h0 (by rw [hy];exact hk);rw [hy];clear hy;refine ent aC aK Tryz.func42 rfl rfl fun X0 hX=>?_;simp only [Tryz.f42,go_sem]
  repeat' (first|simp only [*,go_sem,Nat.reduceLT,Nat.reduceLeDiff,Nat.reduceEqDiff,↓reduceIte,Nat.reduceAdd,Bool.not_true]|((with_reducible refine aS [0,1,2,3] (hf) ?_ ?_ ?_ ?_);exact rfl;exact rfl;(focus ((simp only [go_sem];done))))|((refine aO (id:=4) aC aK [16,17] [16,0,1,2,3,4,5,6,7,8,9,10,11,12,13,14,17,15,18] (by decide +kernel) ?_);(repeat' (first|(refine bC ?_)|((refine dB ?_ ?_ rfl rfl rfl ?_ ?_);(rotate_left 2);(focus ((repeat' (simp only [*,go_sem,Nat.reduceLT,Nat.reduceLeDiff,Nat.reduceEqDiff,↓reduceIte,Nat.reduceAdd,]));((refine And.intro ?_ ?_ <;> exact rfl))));(simp only [aF,bF]))|((refine dA ?_ rfl rfl rfl ?_ ?_);(rotate_left 1);(focus ((repeat' (first|exact bI|refine bA ?_ ?_));(all_goals ((repeat' (first|simp only [*,go_sem,Nat.reduceLT,Nat.reduceEqDiff,↓reduceIte,]|refine hk rfl ?_));(try (exact rfl))))));(simp only [aF]))))))
theorem zF7 {l:List Ly} {a:Int} (hl:l.length≤100000):aA Tryz.prog 116 [.c (.p (.sl 4 (cY l))),.c (.p (.i .i64 a))] [] fun r h=>r=.c (.own 0 0 (cQ (bM l a)).length)∧h=[.arr 1 (cQ (bM l a)) false]:=by
 refine aA.rowR ?_;refine PC aC aK Tryz.func116 rfl rfl fun X0 hX=>?_;simp only [Tryz.f116,go_sem]
 repeat' (first|simp only [*,go_sem,Nat.reduceLT,Nat.reduceLeDiff,Nat.reduceEqDiff,↓reduceIte,Nat.reduceAdd,]|((with_reducible refine aQ (BK (l:=l) (by omega)) ?_ ?_ ?_);exact rfl;exact rfl))
 refine dS aC aK (α:=List Int × Int) (fun x=>⟨38,[(0,.c (.p (.sl 4 (cY l)))),(5,.c (.own 1 0 x.1.length)),(6,.c (.ptr 0 0)),(7,.c (.p (.b (eA l x.2).isSome)))],[.box ((eA l x.2).getD ly0).cv,.arr 1 (cQ x.1) false]⟩)
  (fun x=>x.1.length≤l.length+1∧x.1++dW l (l.length+1-x.1.length) x.2=dW l (l.length+1) a) (fun x=>l.length+1-x.1.length) ([],a) ⟨Nat.zero_le _,rfl⟩ ((pQ 5 1 rfl).trans (cM (aJ (by rw [hX];rfl) rfl rfl (by simp [aH,aN,aD,aL,aG,])))) ?_
 rintro ⟨acc,id⟩ ⟨h1,h2⟩;simp only at h1 h2 ⊢;cases hf:eA l id with
 | none =>
  have e:dW l (l.length+1-acc.length) id=[]:=by cases (l.length+1-acc.length) <;> simp [dW,hf]
  rw [e,List.append_nil] at h2;have hr:bM l a=acc.reverse:=by unfold bM;rw [← h2]
  have hrv:=zQ (l:=acc) (by omega);rw [hr];clear hr h2 e
  repeat' (first|simp only [*,go_sem,Nat.reduceLT,Nat.reduceEqDiff,↓reduceIte,Nat.reduceAdd,Option.isSome_none]|((with_reducible refine aS [1] (hrv) ?_ ?_ ?_ ?_);exact rfl;exact rfl;(focus ((simp only [go_sem];done)))))
  exact .inr ⟨1,by rw [List.length_reverse],rfl⟩
 | some y =>
  by_cases hlt:acc.length≤l.length
  ·have hfc:=BK (l:=l) (a:=y.p) (by omega);have hd:decide ((acc.length:Int)≤(l.length:Int))=true:=decide_eq_true (by omega);obtain ⟨z,hz⟩:∃ z,(eA l y.p).getD ly0=z:=⟨_,rfl⟩;rw [hz] at hfc;have hJ:(acc++[y.i]).length≤l.length+1∧(acc++[y.i])++dW l (l.length+1-(acc++[y.i]).length) y.p=dW l (l.length+1) a:=by
    refine ⟨by simp;omega,?_⟩
    rw [← h2,show l.length+1-acc.length=(l.length+1-(acc++[y.i]).length)+1 by simp;omega,dW,hf]
    simp
   have hm:l.length+1-(acc++[y.i]).length<l.length+1-acc.length:=by simp;omega
   have hJ:=PLift.up hJ;have hm:=PLift.up hm;have hz:=PLift.up hz;have hla:(acc++[y.i]).length=acc.length+1:=by simp
   have hla:=PLift.up hla;clear h1 h2
   repeat' (first|simp only [*,go_sem,Nat.reduceLT,Nat.reduceLeDiff,Nat.reduceEqDiff,↓reduceIte,Nat.reduceAdd,Nat.reduceBEq,Option.isSome_some,Option.getD_some]|((with_reducible refine aQ (hfc) ?_ ?_ ?_);exact rfl;exact rfl)|((with_reducible refine And.intro ?_ ?_);((first|omega|decide))))
   exact mM (acc++[y.i],y.p) hJ.down hm.down (by rw [hz.down,hla.down];exact dO (fY [4,3] rfl (by simp only [fQ,gU,fP];(repeat' (first|exact rfl|exact True.intro|refine And.intro ?_ ?_))) rfl (by simp only [gQ,lH];(repeat' (first|exact rfl|exact True.intro|refine And.intro ?_ ?_)))))
  ·have hal:acc.length=l.length+1:=by omega
   have hd:decide (((l.length+1:Nat):Int)≤(l.length:Int))=false:=decide_eq_false (by omega);have e:dW l (l.length+1-acc.length) id=[]:=by rw [hal,Nat.sub_self];rfl
   rw [e,List.append_nil] at h2;have hr:bM l a=acc.reverse:=by unfold bM;rw [← h2]
   have hrv:=zQ (l:=acc) (by omega);rw [hr];rw [hal] at hrv;clear hr h2 e
   repeat' (first|simp only [*,go_sem,Nat.reduceLT,Nat.reduceEqDiff,↓reduceIte,Nat.reduceAdd,Option.isSome_some,Option.getD_some]|((with_reducible refine aS [1] (hrv) ?_ ?_ ?_ ?_);exact rfl;exact rfl;(focus ((simp only [go_sem];done)))))
   exact .inr ⟨1,by rw [List.length_reverse,hal],rfl⟩
end Go.Proofs.YtlbfnbldeefgmaaGreatDoor
end
section
namespace Go.Dm
open Go
theorem HB:∀ {a b:List Int},a.Nodup→(∀ x∈a,x∈b)→a.length≤b.length
 | [],_,_,_=>Nat.zero_le _
 | x::a,b,hn,hs=>by
  have h2:=List.nodup_cons.1 hn;have hx:=hs x List.mem_cons_self;have:=HB (b:=b.erase x) h2.2 fun y hy=>(List.mem_erase_of_ne (show y≠x by intro e;subst e;exact h2.1 hy)).2 (hs y (List.mem_cons_of_mem _ hy))
  have h3:=List.length_erase_of_mem hx;have h4:=List.length_pos_of_mem hx;simp only [List.length_cons];omega
structure Bfs (l:List Ly) (id:Int) (T O:List Int):Prop where
 nd:O.Nodup
 there:∀ a∈O,∃ x∈l,x.i=a
 anc:∀ a∈O,a∈qP l id
 todo:∀ t∈T,(∃ x∈l,x.i=t)→t∈qP l id
 self:(∃ x∈l,x.i=id)→id∈O∨id∈T
 up:∀ x∈l,x.i∈O→∀ y∈l,(y.i=x.p∨y.i=x.s)→y.i∈O∨y.i∈T
 len:T.length≤1+2*O.length
theorem Bfs.start {l:List Ly} {id:Int}:Bfs l id [id] []:=by
 refine ⟨List.nodup_nil,fun a h=>(by cases h),fun a h=>(by cases h),fun t ht h=>?_,fun _=>.inr (List.mem_singleton.2 rfl),fun x _ h=>(by cases h),Nat.le_refl _⟩;obtain ⟨x,hx,rfl⟩:=h;rw [List.mem_singleton] at ht;subst ht;exact oY hx
theorem Bfs.skip {l:List Ly} {id t:Int} {T O:List Int} (h:Bfs l id (t::T) O) (hs:eA l t=none∨t∈O):Bfs l id T O:=by
 have out:∀ a,(∃ x∈l,x.i=a)→a∈O∨a∈t::T→a∈O∨a∈T:=by
  rintro a ⟨x,hx,rfl⟩ (ha|ha)
  ·exact .inl ha
  ·rcases List.mem_cons.1 ha with e|ha
   ·rcases hs with hs|hs
    ·exact absurd e (zDN hs x hx)
    ·exact .inl (e▸hs)
   ·exact .inr ha
 exact ⟨h.nd,h.there,h.anc,fun a ha=>h.todo a (List.mem_cons_of_mem _ ha),fun hx=>out _ hx (h.self hx),fun x hx hxo y hy hp=>out _ ⟨y,hy,rfl⟩ (h.up x hx hxo y hy hp),by have:=h.len;simp only [List.length_cons] at this;omega⟩
theorem Bfs.more {l:List Ly} (hg:OkG l) {id t:Int} {T O:List Int} {x:Ly} (h:Bfs l id (t::T) O) (hf:eA l t=some x) (hn:t ∉ O):Bfs l id (T++[x.p,x.s]) (O++[x.i])∧x.i=t∧O.length<l.length:=by
 obtain ⟨hx,rfl⟩:=lT hf;have ha:x.i∈qP l id:=h.todo _ List.mem_cons_self ⟨x,hx,rfl⟩;have nd2:(O++[x.i]).Nodup:=by
  rw [List.nodup_append];refine ⟨h.nd,by simp,fun a h1 b h2 e=>?_⟩
  rw [List.mem_singleton] at h2;subst h2;subst e;exact hn h1
 have th2:∀ a∈O++[x.i],∃ y∈l,y.i=a:=fun a h1=>by
  rcases List.mem_append.1 h1 with h1|h1
  ·exact h.there a h1
  ·rw [List.mem_singleton] at h1;exact ⟨x,hx,h1.symm⟩
 refine ⟨⟨nd2,th2,fun a h1=>?_,fun a h1 h2=>?_,fun hx0=>?_,fun z hz hzo y hy hp=>?_,?_⟩,rfl,?_⟩
 ·rcases List.mem_append.1 h1 with h1|h1
  ·exact h.anc a h1
  ·rw [List.mem_singleton] at h1;exact h1▸ha
 ·rcases List.mem_append.1 h1 with h1|h1
  ·exact h.todo a (List.mem_cons_of_mem _ h1) h2
  ·obtain ⟨y,hy,rfl⟩:=h2;refine AX hg hx hy ha ?_;simpa using h1
 ·rcases h.self hx0 with h1|h1
  ·exact .inl (List.mem_append_left _ h1)
  ·rcases List.mem_cons.1 h1 with e|h1
   ·exact .inl (List.mem_append_right _ (List.mem_singleton.2 e))
   ·exact .inr (List.mem_append_left _ h1)
 ·rcases List.mem_append.1 hzo with h1|h1
  ·rcases h.up z hz h1 y hy hp with h2|h2
   ·exact .inl (List.mem_append_left _ h2)
   ·rcases List.mem_cons.1 h2 with e|h2
    ·exact .inl (List.mem_append_right _ (List.mem_singleton.2 e))
    ·exact .inr (List.mem_append_left _ h2)
  ·rw [List.mem_singleton] at h1;have e1:=kM hg.inc hz;have e2:=kM hg.inc hx;rw [h1,e2] at e1;cases e1;refine .inr (List.mem_append_right _ ?_);simpa using hp
 ·have:=h.len;simp only [List.length_cons,List.length_append,List.length_nil] at this ⊢;omega
 ·have:=HB (b:=l.map (·.i)) nd2 fun a h1=>by
   obtain ⟨y,hy,rfl⟩:=th2 a h1;exact List.mem_map.2 ⟨y,hy,rfl⟩
  simp only [List.length_append,List.length_cons,List.length_nil,List.length_map] at this;omega
theorem Bfs.done {l:List Ly} (hg:OkG l) {id:Int} {O:List Int} (h:Bfs l id [] O):(O.mergeSort fun x y=>decide (x≤y))=qP l id:=by
 have hm:∀ a,a∈O↔a∈qP l id:=fun a=>⟨h.anc a,fun ha=>qS (C:=fun a=>a∈O) (fun x hx e=>by
   rcases h.self ⟨x,hx,e⟩ with h1|h1
   ·exact e▸h1
   ·cases h1) (fun x hx hc y hy hp=>by
   rcases h.up x hx hc y hy hp with h1|h1
   ·exact h1
   ·cases h1) a ha⟩
 refine LI ?_ (AW hg.inc id) fun a=>by rw [List.mem_mergeSort];exact hm a
 have hs:(O.mergeSort fun x y=>decide (x≤y)).Pairwise (fun x y=>decide (x≤y)=true):=List.pairwise_mergeSort (fun a b c h1 h2=>by simp only [decide_eq_true_eq] at *;omega) (fun a b=>by simp only [Bool.or_eq_true,decide_eq_true_eq];omega) O
 have hd:(O.mergeSort fun x y=>decide (x≤y)).Nodup:=(List.mergeSort_perm O _).nodup_iff.2 h.nd;exact (hs.and hd).imp fun {a b} h1=>by
  have h2:=h1.1;have h3:a≠b:=h1.2;simp only [decide_eq_true_eq] at h2;omega
end Go.Dm
end
section
namespace Go.Dm
open Go Go.Sort Go.Proofs
theorem wN {w:World} {S:Nat→Prop} {bl:Nat}:∀ {ss:List Int} {off:Nat},eI w S 1 bl off (cQ ss)↔∀ j (hj:j<ss.length),w.cell? ⟨bl,off+j,none⟩=some (.int .i64 ss[j])
 | [],off=>by simp [cQ,eI]
 | a::ss,off=>by
  have ih:=@wN w S bl ss (off+1);show ((([PV.i .i64 a]:List PV).length=1∧fJ w S bl off [.i .i64 a])∧eI w S 1 bl (off+1) (cQ ss))↔_;rw [ih];simp only [fJ,cN,List.length_cons,List.length_nil,and_true,true_and];constructor
  ·rintro ⟨⟨v,h1,rfl⟩,h2⟩ j hj;cases j with
   | zero=>exact h1
   | succ j=>simpa [Nat.add_assoc,Nat.add_comm 1 j] using h2 j (by simpa using hj)
  ·intro h;refine ⟨⟨_,by simpa using h 0 (by simp),rfl⟩,fun j hj=>?_⟩
   have:=h (j+1) (by simpa using hj);rw [show off+(j+1)=off+1+j by omega] at this
   exact this
theorem SI {w:World} {S:Nat→Prop} {bl off:Nat} {ss:List Int} {arr:Array Value} {el:TypeId} {fz:Nat × Nat} (hb:w.heap[bl]? = some (.cells arr el fz)) (hf:NJ fz off arr.size) (hs:off+ss.length≤arr.size) (hl:eI w S 1 bl off (cQ ss)):Holds (Value.int .i64) w bl off ss.toArray:=by
 intro j hj;have hj':j<ss.length:=by simpa using hj
 refine ⟨?_,?_⟩
 ·rw [wN.1 hl j hj'];simp [hj']
 ·have:=hf.at_ (off+j) (by omega) (by omega);simp only [World.frozen?,hb];simpa using this
theorem xE {w:World} {n bl off:Nat} {d:Array Int} {arr:Array Value} {el:TypeId} {fz:Nat × Nat} (hb:w.heap[bl]? = some (.cells arr el fz)):Touched w (putRow (Value.int .i64) (Sort.ahead w n) bl off d) bl where
 os:=rfl
 tape:=rfl
 output:=⟨rfl,Nat.le_add_right _ _⟩
 size:=by simp
 other:=fun b hne=>by simp [putRow,mapBlock,Array.getElem?_modify,Ne.symm hne]
 here:=.inl ⟨arr,el,fz,putCells (Value.int .i64) off d arr,el,fz,hb,by simp [putRow,mapBlock,Array.getElem?_modify,hb,onCells],by simp [putCells]⟩
theorem EU {P:Program} {f:FuncId} (hen:∀ (vals:List Value) (w:World),(callFunc f vals.toArray).run P w=.ok (.enter f vals.toArray) w)
  (hS:∀ (blk off cap:Nat) (ss:List Int) (w:World),Holds (Value.int .i64) w blk off ss.toArray→blk<w.heap.size→ss.length<4611686018427387904 →
   Calls P f #[.slice (some ⟨blk,off,none⟩) ss.length cap] w fun e w'=>e=.returned (.tuple #[])∧∃ n os,w'=grow (putRow (Value.int .i64) (Sort.ahead w n) blk off (ss.mergeSort fun x y=>decide (x≤y)).toArray) os)
  (hN:∀ (p:Option Addr) (cap:Nat) (w:World),Calls P f #[.slice p 0 cap] w fun e w'=>e=.returned (.tuple #[])∧w'=w)
  {h:aB} {id:Nat} {ss:List Int} (hid:h[id]? = some (.arr 1 (cQ ss) false)) (hsz:ss.length<4611686018427387904):
  aA P f [.c (.own id 0 ss.length)] h fun d h'=>d=.tup []∧h'=h.set id (.arr 1 (cQ (ss.mergeSort fun x y=>decide (x≤y))) false):=by
 intro X vals hh hi gd hr;subst hh;obtain ⟨v,rfl,hv⟩:∃ v,vals=[v]∧aX X (.c (.own id 0 ss.length)) v:=by
  cases vals with
  | nil=>exact hr.elim
  | cons v vs=>cases vs with
   | nil=>exact ⟨v,rfl,hr.1⟩
   | cons _ _=>exact hr.2.elim
 refine .inl ⟨hen _ _,?_⟩;obtain ⟨h1,h2,h3⟩:=hv;obtain ⟨h4,h5⟩:=h3 _ _ _ hid;have hb:=hi.blk id _ hid;have e0:ss=[]→X.h.set id (.arr 1 (cQ (ss.mergeSort fun x y=>decide (x≤y))) false)=X.h:=by
  rintro rfl;rw [List.mergeSort_nil];exact (List.getElem?_eq_some_iff.1 hid).elim fun hlt he=>by rw [← he];exact List.set_getElem_self hlt
 have fin0:ss=[]→∀ (p:Option Addr) (cap:Nat),v=.slice p 0 cap→Calls P f [v].toArray X.w fun e w'=>∃ v,e=.returned v∧Ret X (fun d h'=>d=.tup []∧h'=X.h.set id (.arr 1 (cQ (ss.mergeSort fun x y=>decide (x≤y))) false)) v w':=by
  rintro hs p cap rfl;refine (hN p cap X.w).mono ?_;rintro e w' ⟨rfl,rfl⟩;exact ⟨_,rfl,.tup [],X,rfl,hi,Step.refl hi,⟨[],rfl,True.intro⟩,rfl,(e0 hs).symm⟩
 cases hg:X.G id with
 | none =>
  rw [hg] at h5;simp only at h5;have hs:ss=[]:=by
   rcases hb with hb|⟨g,_,_,_,hb,_⟩
   ·simpa [cQ] using hb.2
   ·rw [hg] at hb;cases hb
  exact fin0 hs _ _ h5
 | some g =>
  rw [hg] at h5;simp only at h5;obtain ⟨cap,o,arr,el,fz,k1,k2,k3,k4,k5,k6⟩:=h5;by_cases hz:ss.length=0
  ·rw [hz] at k2;exact fin0 (List.length_eq_zero_iff.1 hz) _ _ k2
  ·have ho:o=g.2:=by rcases k3 with k3|k3 <;> omega
   subst ho;rcases hb with hb|⟨g',arr',el',fz',b1,b2,b3,b4,b5⟩
   ·rw [hg] at hb;cases hb.1
   rw [hg] at b1;cases b1;rw [k1] at b2;cases b2;rw [eM,Nat.mul_one] at b3;have hH:=SI k1 b4.1 b3 b5;have hlt:g.1<X.w.heap.size:=by
    rcases Nat.lt_or_ge g.1 X.w.heap.size with hb|hb
    ·exact hb
    ·rw [Array.getElem?_eq_none hb] at k1;cases k1
   subst k2;refine (hS g.1 g.2 cap ss X.w hH hlt hsz).mono ?_;rintro e w' ⟨rfl,n,os,rfl⟩;generalize hst:(ss.mergeSort fun x y=>decide (x≤y))=st;have hsl:st.length=ss.length:=by rw [← hst];exact List.length_mergeSort ..
   have ht:=xE (n:=n) (off:=g.2) (d:=st.toArray) k1;have hsb:bX (.arr 1 (cQ ss) false) (.arr 1 (cQ st) false):=⟨rfl,by rw [eM,eM];omega⟩
   have hbb:dU (X.put (putRow (Value.int .i64) (Sort.ahead X.w n) g.1 g.2 st.toArray) id (.arr 1 (cQ st) false)) id (.arr 1 (cQ st) false):=by
    refine .inr ⟨g,putCells (Value.int .i64) g.2 st.toArray arr,el,fz,hg,by simp [Ctx.put,putRow,mapBlock,Array.getElem?_modify,k1,onCells],?_,?_,?_⟩
    ·rw [eM,Nat.mul_one,hsl];simpa [putCells] using b3
    ·simpa [putCells] using b4
    ·refine wN.2 fun j hj=>?_;have:=cell?_putRow (Value.int .i64) (Sort.ahead X.w n) g.1 g.2 ss.toArray st.toArray (fun j hj=>hH j hj) (by simpa using hsl) j (by simpa using hj);show (putRow (Value.int .i64) (Sort.ahead X.w n) g.1 g.2 st.toArray).cell? _=_;rw [this];simp [hj]
   have hi1:=HInv.put hi hid rfl rfl hg ht hsb rfl hbb;have hs1:=Step.put hi hid rfl rfl hg ht hsb rfl;exact ⟨_,rfl,.tup [],_,rfl,HInv.grew hi1 os,hs1.trans hi1 (Step.grew hi1 os),⟨[],rfl,True.intro⟩,rfl,rfl⟩
end Go.Dm
end
section
namespace Go.Proofs.YtlbfnbldeefgmaaGreatDoor
open Go Go.Dm Go.Proofs
set_option maxRecDepth 100000
set_option maxHeartbeats 8000000
theorem zHp {h:aB} {id n:Nat} {ss:List Int} {K:DV→aB→Prop} (hid:h[id]? = some (.arr 1 (cQ ss) false)) (hsz:ss.length<4611686018427387904) (hn:n=ss.length)
  (hk:K (.tup []) (h.set id (.arr 1 (cQ (ss.mergeSort fun x y=>decide (x≤y))) false))):aA Tryz.prog 260 [.c (.own id 0 n)] h K:=by
 subst hn;exact aA.mono (EU (enters Tryz.func260 rfl rfl) (fun blk off cap ss w h1 h2 h3=>Tryz.slices_Sort_int blk off cap ss w h1 h2 h3) (fun p cap w=>Tryz.slices_Sort_int_none p cap w) hid hsz) (by rintro d h' ⟨rfl,rfl⟩;exact hk)
def VG (O:List Int):List (Int × PV):=O.map fun a=>(a,.b true)
theorem rR:∀ (O:List Int) (a:Int),lK (VG O) a (.b false)=.b (O.contains a)
 | [],_=>rfl
 | x::O,a=>by
  simp only [VG,List.map_cons,lK,List.contains_cons];by_cases h:x=a
  ·subst h;simp
  ·have h2:(a == x)=false:=by simpa using fun e=>h e.symm
   rw [if_neg h,h2,Bool.false_or];exact rR O a
theorem JA:∀ (O:List Int) (a:Int),O.contains a=false→xN (VG O) a (.b true)=VG (O++[a])
 | [],_,_=>rfl
 | x::O,a,h=>by
  simp only [List.contains_cons,Bool.or_eq_false_iff] at h;have h2:x≠a:=fun e=>by subst e;simp at h
  simp only [VG,List.map_cons,xN,List.cons_append];rw [if_neg h2];exact congrArg _ (JA O a h.2)
theorem zDw (t:List Int) (a b:Int):cQ t++[[.i .i64 a],[.i .i64 b]]=cQ (t++[a,b]):=by simp [cQ]
theorem KA {l:List Ly} {a:Int} (hl:l.length≤100000) (hgr:OkG l):aA Tryz.prog 213 [.c (.p (.sl 4 (cY l))),.c (.p (.i .i64 a))] [] fun r h=>r=.c (.own 0 0 (cQ (qP l a)).length)∧h=[.arr 1 (cQ (qP l a)) false]:=by
 refine aA.rowR ?_;refine PC aC aK Tryz.func213 rfl rfl fun X0 hX=>?_;simp only [Tryz.f213,go_sem]
 repeat' (first|simp only [*,go_sem,Nat.reduceLT,Nat.reduceLeDiff,Nat.reduceEqDiff,↓reduceIte,]|((with_reducible refine And.intro ?_ ?_);decide))
 refine dS aC aK (α:=List Int × List Int) (fun x=>⟨52,[(0,.c (.p (.sl 4 (cY l)))),(5,.c (.mp 0)),(6,.c (.own 1 0 x.1.length)),(7,.c (.own 2 0 x.2.length))],[.mp (VG x.2),.arr 1 (cQ x.1) false,.arr 1 (cQ x.2) false]⟩)
  (fun x=>Bfs l a x.1 x.2∧x.2.length≤l.length) (fun x=>3*(l.length-x.2.length)+x.1.length) ([a],[]) ⟨Bfs.start,Nat.zero_le _⟩ ((pQ 7 1 rfl).trans (cM (aJ (by rw [hX];rfl) rfl rfl (by simp only [aH,aN];(repeat' (first|exact rfl|exact True.intro|refine And.intro ?_ ?_)))))) ?_
 rintro ⟨T,O⟩ ⟨hB,hO⟩;simp only at hB hO ⊢;have hlen:=hB.len;cases T with
 | nil =>
  have hd:=hB.done hgr;have hls:(O.mergeSort fun x y=>decide (x≤y)).length=O.length:=List.length_mergeSort ..;have hk:∀ {h:aB} {i:Nat} {K:DV→aB→Prop},h[i]? = some (.arr 1 (cQ O) false)→K (.tup []) (h.set i (.arr 1 (cQ (qP l a)) false))→aA Tryz.prog 260 [.c (.own i 0 O.length)] h K:=fun h0 hk=>zHp h0 (by omega) rfl (by rw [hd];exact hk)
  rw [hd] at hls;clear hd hlen hO hB
  repeat' (first|simp only [*,go_sem,Nat.reduceLT,Nat.reduceEqDiff,↓reduceIte,Int.reduceLT,]|refine hk rfl ?_)
  exact .inr ⟨2,rfl,rfl⟩
 | cons t T =>
  simp only [List.length_cons] at hlen ⊢;have h1:decide ((0:Int)<((T.length+1:Nat):Int))=true:=decide_eq_true (by omega);have hfc:=BK (l:=l) (a:=t) (by omega);have hg0:(cQ (t::T)).getD 0 []=[.i .i64 t]:=rfl;have htk:((cQ (t::T)).drop 1).take T.length=cQ T:=by rw [show (cQ (t::T)).drop 1=cQ T from rfl,← eM T,List.take_length]
  have htk:=PLift.up htk;cases hf:eA l t with
  | none =>
   have hsk:=hB.skip (.inl hf);rw [hf] at hfc;clear hB hf;have hsk:=PLift.up hsk
   repeat' (first|simp only [*,go_sem,Nat.reduceLT,Nat.reduceLeDiff,Nat.reduceEqDiff,↓reduceIte,Nat.reduceAdd,Int.reduceLE,Int.reduceToNat,Option.isSome_none,Option.getD_none]|((with_reducible refine aQ (hfc) ?_ ?_ ?_);exact rfl;exact rfl)|((with_reducible refine And.intro ?_ ?_);omega))
   exact mM (T,O) ⟨hsk.down,hO⟩ (by simp only [List.length_cons];omega) (DM.trans (vP 6 1 1 T.length rfl rfl) (by rw [htk.down];exact dO (fY [0,4,2] rfl (by simp only [fQ,fP,lX];(repeat' (first|exact rfl|exact True.intro|refine And.intro ?_ ?_))) rfl (by simp only [gQ,lH];(repeat' (first|exact rfl|exact True.intro|refine And.intro ?_ ?_))))))
  | some x =>
   rw [hf] at hfc;cases hc:O.contains x.i
   ·have hn:t ∉ O:=by
     have e:=(lT hf).2;rw [← e];simpa using hc
    obtain ⟨m1,m2,m3⟩:=hB.more hgr hf hn;have hsl:=rR O x.i;have hss:=JA O x.i hc;rw [hc] at hsl;clear hB hf hn m2;have m1:=PLift.up m1;have e1:(T++[x.p,x.s]).length=T.length+1-1+2:=by simp
    have e2:(O++[x.i]).length=O.length+1:=by simp
    have e1:=PLift.up e1;have e2:=PLift.up e2
    repeat' (first|simp only [*,go_sem,Nat.reduceLT,Nat.reduceLeDiff,Nat.reduceEqDiff,↓reduceIte,Nat.reduceAdd,Int.reduceLE,Int.reduceToNat,Nat.reduceBEq,Option.isSome_some,Option.getD_some,zDw,List.drop_succ_cons,List.drop_zero]|((with_reducible refine aQ (hfc) ?_ ?_ ?_);exact rfl;exact rfl)|((with_reducible refine And.intro ?_ ?_);((first|omega|decide))))
    exact mM (T++[x.p,x.s],O++[x.i]) ⟨m1.down,by simp;omega⟩ (by simp;omega) (by rw [e1.down,e2.down];exact dO (fY [0,7,5] rfl (by simp only [fQ,fP,lX];(repeat' (first|exact rfl|exact True.intro|refine And.intro ?_ ?_))) rfl (by simp only [gQ,lH];(repeat' (first|exact rfl|exact True.intro|refine And.intro ?_ ?_)))))
   ·have hn:t∈O:=by
     have e:=(lT hf).2;rw [← e];simpa using hc
    have hsk:=hB.skip (.inr hn);have hsl:=rR O x.i;rw [hc] at hsl;clear hB hf hn;have hsk:=PLift.up hsk
    repeat' (first|simp only [*,go_sem,Nat.reduceLT,Nat.reduceLeDiff,Nat.reduceEqDiff,↓reduceIte,Nat.reduceAdd,Int.reduceLE,Int.reduceToNat,Option.isSome_some,Option.getD_some]|((with_reducible refine aQ (hfc) ?_ ?_ ?_);exact rfl;exact rfl)|((with_reducible refine And.intro ?_ ?_);omega))
    exact mM (T,O) ⟨hsk.down,hO⟩ (by simp only [List.length_cons];omega) (DM.trans (vP 6 1 1 T.length rfl rfl) (by rw [htk.down];exact dO (fY [0,4,2] rfl (by simp only [fQ,fP,lX];(repeat' (first|exact rfl|exact True.intro|refine And.intro ?_ ?_))) rfl (by simp only [gQ,lH];(repeat' (first|exact rfl|exact True.intro|refine And.intro ?_ ?_))))))
theorem uE {h:aB} {i n:Nat} {l:List Int} {a:Int} {K:DV→aB→Prop} (hl:l.length≤1000000) (hn:n=l.length) (h0:h[i]? = some (.arr 1 (cQ l) false)) (hk:K (.c (.p (.b (l.contains a)))) h):
  aA Tryz.prog 216 [.c (.own i 0 n),.c (.p (.i .i64 a))] h K :=
 VS rfl (by rw [hn,← eM,List.take_length]) (KK hl) h0 (fun d hd=>by subst hd;exact ⟨rfl,hk⟩)
end Go.Proofs.YtlbfnbldeefgmaaGreatDoor
end
