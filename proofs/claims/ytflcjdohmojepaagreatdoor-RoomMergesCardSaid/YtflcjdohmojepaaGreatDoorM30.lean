/- Part 31 of the proof of roomMerges_card, set without needless blanks. No condition. -/
import Derived.Test.YtflcjdohmojepaaGreatDoorM29
set_option linter.all false
set_option maxRecDepth 100000
set_option maxHeartbeats 16000000
section
namespace Go.Dm
open Go
section
variable {l:List Ly}{id t:Int}{T O:List Int}
theorem RV: ∀{a b:List Int},a.Nodup->(∀x∈a,x∈b)->a.length<=b.length
 | [],_,_,_=>Nat.zero_le _
 | x::a,b,hn,hs=>by
  have h2:=List.nodup_cons.1 hn;have hx:=hs x List.mem_cons_self;have:=RV (b:=b.erase x) h2.2 λy hy=>(List.mem_erase_of_ne (show y≠x by intro e;subst e;exact h2.1 hy)).2 (hs y (List.mem_cons_of_mem _ hy))
  have h3:=List.length_erase_of_mem hx;have h4:=List.length_pos_of_mem hx;simp only[List.length_cons];omega
structure Bfs (l:List Ly) (id:Int) (T O:List Int):Prop where
 nd:O.Nodup
 there:∀a∈O,∃x∈l,x.i=a
 anc:∀a∈O,a∈rS l id
 todo:∀t∈T,(∃x∈l,x.i=t)->t∈rS l id
 self:(∃x∈l,x.i=id)->id∈O∨id∈T
 up:∀x∈l,x.i∈O->∀y∈l,(y.i=x.p∨y.i=x.s)->y.i∈O∨y.i∈T
 len:T.length<=1+2*O.length
theorem Bfs.start: Bfs l id [id] []:=by
 refine⟨List.nodup_nil,λa h=>(by cases h),λa h=>(by cases h),λt ht h=>?_,λ_=>.inr (List.mem_singleton.2 rfl),λx _ h=>(by cases h),Nat.le_refl _⟩;obtain⟨x,hx,rfl⟩:=h;rw[List.mem_singleton] at ht;subst ht;exact tT hx
theorem Bfs.skip(h:Bfs l id (t::T) O)(hs:fF l t=none∨t∈O):Bfs l id T O:=by
 have out:∀a,(∃x∈l,x.i=a)->a∈O∨a∈t::T->a∈O∨a∈T:=by
  rintro a ⟨x,hx,rfl⟩ (ha|ha)
  .exact .inl ha
  .rcases List.mem_cons.1 ha with e|ha
   .rcases hs with hs|hs
    .exact absurd e (zJd hs x hx)
    .exact .inl (e▸hs)
   .exact .inr ha
 exact⟨h.nd,h.there,h.anc,λa ha=>h.todo a (List.mem_cons_of_mem _ ha),λhx=>out _ hx (h.self hx),λx hx hxo y hy hp=>out _ ⟨y,hy,rfl⟩ (h.up x hx hxo y hy hp),by have:=h.len;simp only[List.length_cons] at this;omega⟩
theorem Bfs.more(hg:OkG l){x:Ly}(h:Bfs l id (t::T) O)(hf:fF l t=some x)(hn:t ∉ O):Bfs l id (T++[x.p,x.s]) (O++[x.i])/\x.i=t/\O.length<l.length:=by
 obtain ⟨hx,rfl⟩:=pJ hf;have ha:x.i∈rS l id:=h.todo _ List.mem_cons_self ⟨x,hx,rfl⟩;have nd2:(O++[x.i]).Nodup:=by
  rw[List.nodup_append];refine⟨h.nd,by simp,λa h1 b h2 e=>?_⟩
  rw[List.mem_singleton] at h2;subst h2;subst e;exact hn h1
 have th2:∀a∈O++[x.i],∃y∈l,y.i=a:=λa h1=>by
  rcases List.mem_append.1 h1 with h1|h1
  .exact h.there a h1
  .rw[List.mem_singleton] at h1;exact⟨x,hx,h1.symm⟩
 refine⟨⟨nd2,th2,λa h1=>?_,λa h1 h2=>?_,λhx0=>?_,λz hz hzo y hy hp=>?_,?_⟩,rfl,?_⟩
 .rcases List.mem_append.1 h1 with h1|h1
  .exact h.anc a h1
  .rw[List.mem_singleton] at h1;exact h1▸ha
 .rcases List.mem_append.1 h1 with h1|h1
  .exact h.todo a (List.mem_cons_of_mem _ h1) h2
  .obtain⟨y,hy,rfl⟩:=h2;refine JN hg hx hy ha ?_;simpa using h1
 .rcases h.self hx0 with h1|h1
  .exact .inl (List.mem_append_left _ h1)
  .rcases List.mem_cons.1 h1 with e|h1
   .exact .inl (List.mem_append_right _ (List.mem_singleton.2 e))
   .exact .inr (List.mem_append_left _ h1)
 .rcases List.mem_append.1 hzo with h1|h1
  .rcases h.up z hz h1 y hy hp with h2|h2
   .exact .inl (List.mem_append_left _ h2)
   .rcases List.mem_cons.1 h2 with e|h2
    .exact .inl (List.mem_append_right _ (List.mem_singleton.2 e))
    .exact .inr (List.mem_append_left _ h2)
  .rw[List.mem_singleton] at h1;have e1:=nV hg.inc hz;have e2:=nV hg.inc hx;rw[h1,e2] at e1;cases e1;refine .inr (List.mem_append_right _ ?_);simpa using hp
 .have:=h.len;simp only[List.length_cons,List.length_append,List.length_nil] at this ⊢;omega
 .have:=RV (b:=l.map (·.i)) nd2 λa h1=>by
   obtain⟨y,hy,rfl⟩:=th2 a h1;exact List.mem_map.2 ⟨y,hy,rfl⟩
  simp only[List.length_append,List.length_cons,List.length_nil,List.length_map] at this;omega
theorem Bfs.done(hg:OkG l)(h:Bfs l id [] O):(O.mergeSort λx y=>decide (x<=y))=rS l id:=by
 have hm:∀a,a∈O↔a∈rS l id:=λa=>⟨h.anc a,λha=>qP (C:=λa=>a∈O) (λx hx e=>by
   rcases h.self ⟨x,hx,e⟩ with h1|h1
   .exact e▸h1
   .cases h1) (λx hx hc y hy hp=>by
   rcases h.up x hx hc y hy hp with h1|h1
   .exact h1
   .cases h1) a ha⟩
 refine XH ?_ (JM hg.inc id) λa=>by rw[List.mem_mergeSort];exact hm a
 have hs:(O.mergeSort λx y=>decide (x<=y)).Pairwise (λx y=>decide (x<=y)=true):=List.pairwise_mergeSort (λa b c h1 h2=>by simp only[decide_eq_true_eq] at *;omega) (λa b=>by simp only[Bool.or_eq_true,decide_eq_true_eq];omega) O
 have hd:(O.mergeSort λx y=>decide (x<=y)).Nodup:=(List.mergeSort_perm O _).nodup_iff.2 h.nd;exact(hs.and hd).imp λ{a b} h1=>by
  have h2:=h1.1;have h3:a≠b:=h1.2;simp only[decide_eq_true_eq] at h2;omega
end
end Go.Dm
end
section
namespace Go.Dm
open Go Go.Proofs Go.Sort
theorem CU{w:World}{S:Nat->Prop}{bl:Nat}:∀{ss:List Int} {off:Nat},fP w S 1 bl off (dB ss)↔∀j (hj:j<ss.length),w.cell? ⟨bl,off+j,none⟩=some (.int .i64 ss[j])
 | [],off=>by simp[dB,fP]
 | a::ss,off=>by
  have ih:=@CU w S bl ss (off+1);show ((([PV.i .i64 a]:List PV).length=1/\gT w S bl off [.i .i64 a])/\fP w S 1 bl (off+1) (dB ss))↔_;rw[ih];simp only[gT,cZ,List.length_cons,List.length_nil,and_true,true_and];constructor
  .rintro⟨⟨v,h1,rfl⟩,h2⟩ j hj;cases j with
   | zero=>exact h1
   | succ j=>simpa[Nat.add_assoc,Nat.add_comm 1 j] using h2 j (by simpa using hj)
  .intro h;refine⟨⟨_,by simpa using h 0 (by simp),rfl⟩,λj hj=>?_⟩
   have:=h (j+1) (by simpa using hj);rw[show off+(j+1)=off+1+j by omega] at this
   exact this
theorem zBW{w:World}{S:Nat->Prop}{bl off:Nat}{ss:List Int}{arr:Array Value}{el:TypeId}{fz:Nat × Nat}(hb:w.heap[bl]?=some (.cells arr el fz))(hf:ZQ fz off arr.size)(hs:off+ss.length<=arr.size)(hl:fP w S 1 bl off (dB ss)):Holds (Value.int .i64) w bl off ss.toArray:=by
 intro j hj;have hj':j<ss.length:=by simpa using hj
 refine⟨?_,?_⟩
 .rw[CU.1 hl j hj'];simp[hj']
 .have:=hf.at_ (off+j) (by omega) (by omega);simp only[World.frozen?,hb];simpa using this
theorem DT{w:World}{n bl off:Nat}{d:Array Int}{arr:Array Value}{el:TypeId}{fz:Nat × Nat}(hb:w.heap[bl]?=some (.cells arr el fz)):Touched w (putRow (Value.int .i64) (Sort.ahead w n) bl off d) bl where
 os:=rfl
 tape:=rfl
 output:=⟨rfl,Nat.le_add_right _ _⟩
 size:=by simp
 other:=λb hne=>by simp[putRow,mapBlock,Array.getElem?_modify,Ne.symm hne]
 here:=.inl ⟨arr,el,fz,putCells (Value.int .i64) off d arr,el,fz,hb,by simp[putRow,mapBlock,Array.getElem?_modify,hb,onCells],by simp[putCells]⟩
theorem PE{P:Program}{f:FuncId}(hen:∀(vals:List Value) (w:World),(callFunc f vals.toArray).run P w=.ok (.enter f vals.toArray) w)
  (hS:∀(blk off cap:Nat) (ss:List Int) (w:World),Holds (Value.int .i64) w blk off ss.toArray->blk<w.heap.size->ss.length<4611686018427387904 ->
   Calls P f #[.slice (some ⟨blk,off,none⟩) ss.length cap] w λe w'=>e=.returned (.tuple #[])/\∃n os,w'=grow (putRow (Value.int .i64) (Sort.ahead w n) blk off (ss.mergeSort λx y=>decide (x<=y)).toArray) os)
  (hN:∀(p:Option Addr) (cap:Nat) (w:World),Calls P f #[.slice p 0 cap] w λe w'=>e=.returned (.tuple #[])/\w'=w)
  {h:aD}{id:Nat}{ss:List Int}(hid:h[id]?=some (.arr 1 (dB ss) false))(hsz:ss.length<4611686018427387904):
  aA P f [.c (.own id 0 ss.length)] h λd h'=>d=.tup []/\h'=h.set id (.arr 1 (dB (ss.mergeSort λx y=>decide (x<=y))) false):=by
 intro X vals hh hi gd hr;subst hh;obtain⟨v,rfl,hv⟩:∃v,vals=[v]/\bD X (.c (.own id 0 ss.length)) v:=by
  cases vals with
  | nil=>exact hr.elim
  | cons v vs=>cases vs with
   | nil=>exact⟨v,rfl,hr.1⟩
   | cons _ _=>exact hr.2.elim
 refine .inl ⟨hen _ _,?_⟩;obtain⟨h1,h2,h3⟩:=hv;obtain⟨h4,h5⟩:=h3 _ _ _ hid;have hb:=hi.blk id _ hid;have e0:ss=[]->X.h.set id (.arr 1 (dB (ss.mergeSort λx y=>decide (x<=y))) false)=X.h:=by
  rintro rfl;rw[List.mergeSort_nil];exact(List.getElem?_eq_some_iff.1 hid).elim λhlt he=>by rw[<- he];exact List.set_getElem_self hlt
 have fin0:ss=[]->∀(p:Option Addr) (cap:Nat),v=.slice p 0 cap->Calls P f [v].toArray X.w λe w'=>∃v,e=.returned v/\Ret X (λd h'=>d=.tup []/\h'=X.h.set id (.arr 1 (dB (ss.mergeSort λx y=>decide (x<=y))) false)) v w':=by
  rintro hs p cap rfl;refine(hN p cap X.w).mono ?_;rintro e w' ⟨rfl,rfl⟩;exact⟨_,rfl,.tup [],X,rfl,hi,Step.refl hi,⟨[],rfl,True.intro⟩,rfl,(e0 hs).symm⟩
 cases hg:X.G id with
 | none =>
  rw [hg] at h5;simp only at h5;have hs:ss=[]:=by
   rcases hb with hb|⟨g,_,_,_,hb,_⟩
   .simpa[dB] using hb.2
   .rw[hg] at hb;cases hb
  exact fin0 hs _ _ h5
 | some g =>
  rw[hg] at h5;simp only at h5;obtain⟨cap,o,arr,el,fz,k1,k2,k3,k4,k5,k6⟩:=h5;by_cases hz:ss.length=0
  .rw[hz] at k2;exact fin0 (List.length_eq_zero_iff.1 hz) _ _ k2
  .have ho:o=g.2:=by rcases k3 with k3|k3<;>omega
   subst ho;rcases hb with hb|⟨g',arr',el',fz',b1,b2,b3,b4,b5⟩
   .rw[hg] at hb;cases hb.1
   rw [hg] at b1;cases b1;rw[k1] at b2;cases b2;rw[eZ,Nat.mul_one] at b3;have hH:=zBW k1 b4.1 b3 b5;have hlt:g.1<X.w.heap.size:=by
    rcases Nat.lt_or_ge g.1 X.w.heap.size with hb|hb
    .exact hb
    .rw[Array.getElem?_eq_none hb] at k1;cases k1
   subst k2;refine(hS g.1 g.2 cap ss X.w hH hlt hsz).mono ?_;rintro e w' ⟨rfl,n,os,rfl⟩;generalize hst:(ss.mergeSort λx y=>decide (x<=y))=st;have hsl:st.length=ss.length:=by rw[<- hst];exact List.length_mergeSort ..
   have ht:=DT (n:=n) (off:=g.2) (d:=st.toArray) k1;have hsb:cM (.arr 1 (dB ss) false) (.arr 1 (dB st) false):=⟨rfl,by rw[eZ,eZ];omega⟩
   have hbb:eC (X.put (putRow (Value.int .i64) (Sort.ahead X.w n) g.1 g.2 st.toArray) id (.arr 1 (dB st) false)) id (.arr 1 (dB st) false):=by
    refine .inr ⟨g,putCells (Value.int .i64) g.2 st.toArray arr,el,fz,hg,by simp[Ctx.put,putRow,mapBlock,Array.getElem?_modify,k1,onCells],?_,?_,?_⟩
    .rw[eZ,Nat.mul_one,hsl];simpa[putCells] using b3
    .simpa[putCells] using b4
    .refine CU.2 λj hj=>?_;have:=cell?_putRow (Value.int .i64) (Sort.ahead X.w n) g.1 g.2 ss.toArray st.toArray (λj hj=>hH j hj) (by simpa using hsl) j (by simpa using hj);show (putRow (Value.int .i64) (Sort.ahead X.w n) g.1 g.2 st.toArray).cell? _=_;rw[this];simp[hj]
   have hi1:=HInv.put hi hid rfl rfl hg ht hsb rfl hbb;have hs1:=Step.put hi hid rfl rfl hg ht hsb rfl;exact⟨_,rfl,.tup [],_,rfl,HInv.grew hi1 os,hs1.trans hi1 (Step.grew hi1 os),⟨[],rfl,True.intro⟩,rfl,rfl⟩
end Go.Dm
end
section
namespace Go.Proofs.YtflcjdohmojepaaGreatDoor
open Go Go.Dm Go.Proofs Go.Proofs.Tryz
theorem zNz{h:aD}{id n:Nat}{ss:List Int}{K:DV->aD->Prop}(hid:h[id]?=some (.arr 1 (dB ss) false))(hsz:ss.length<4611686018427387904)(hn:n=ss.length)
  (hk:K (.tup []) (h.set id (.arr 1 (dB (ss.mergeSort λx y=>decide (x<=y))) false))):aA prog 155 [.c (.own id 0 n)] h K:=by
 subst hn;exact aA.mono (PE (enters Tryz.func155 rfl rfl) (λblk off cap ss w h1 h2 h3=>Tryz.slices_Sort_int blk off cap ss w h1 h2 h3) (λp cap w=>Tryz.slices_Sort_int_none p cap w) hid hsz) (by rintro d h' ⟨rfl,rfl⟩;exact hk)
def zCO(O:List Int):List (Int × PV):=O.map λa=>(a,.b true)
theorem wV:∀(O:List Int) (a:Int),oW (zCO O) a (.b false)=.b (O.contains a)
 | [],_=>rfl
 | x::O,a=>by
  simp only[zCO,List.map_cons,oW,List.contains_cons];by_cases h:x=a
  .subst h;simp
  .have h2:(a==x)=false:=by simpa using λe=>h e.symm
   rw[if_neg h,h2,Bool.false_or];exact wV O a
theorem TS:∀(O:List Int) (a:Int),O.contains a=false->EJ (zCO O) a (.b true)=zCO (O++[a])
 | [],_,_=>rfl
 | x::O,a,h=>by
  simp only[List.contains_cons,Bool.or_eq_false_iff] at h;have h2:x≠a:=λe=>by subst e;simp at h
  simp only[zCO,List.map_cons,EJ,List.cons_append];rw[if_neg h2];exact congrArg _ (TS O a h.2)
theorem zIX(t:List Int)(a b:Int):dB t++[[.i .i64 a],[.i .i64 b]]=dB (t++[a,b]):=by simp[dB]
theorem sE{l:List Ly}{a:Int}(hl:l.length<=100000)(hgr:OkG l):aA prog 107 [.c (.p (.sl 4 (dA l))),.c (.p (.i .i64 a))] [] λr h=>r=.c (.own 0 0 (dB (rS l a)).length)/\h=[.arr 1 (dB (rS l a)) false]:=by
 refine aA.rowR ?_;refine VP aF aN func107 rfl rfl λX0 hX=>?_;simp only[f107,go_sem]
 repeat' (first|exact⟨⟩|refine sp ?_|refine ai ?_)
 refine eX aF aN (α:=List Int × List Int) (λx=>⟨52,[(0,.c (.p (.sl 4 (dA l)))),(5,.c (.mp 0)),(6,.c (.own 1 0 x.1.length)),(7,.c (.own 2 0 x.2.length))],[.mp (zCO x.2),.arr 1 (dB x.1) false,.arr 1 (dB x.2) false]⟩)
  (λx=>Bfs l a x.1 x.2/\x.2.length<=l.length) (λx=>3*(l.length-x.2.length)+x.1.length) ([a],[]) ⟨Bfs.start,Nat.zero_le _⟩ ((uM 7 1 rfl).trans (dC (aB (by rw[hX];rfl) rfl rfl wkK))) ?_
 rintro⟨T,O⟩ ⟨hB,hO⟩;simp only at hB hO ⊢;have hlen:=hB.len;cases T with
 | nil =>
  have hd:=hB.done hgr;have hls:(O.mergeSort λx y=>decide (x<=y)).length=O.length:=List.length_mergeSort ..;have hk:∀{h:aD} {i:Nat} {K:DV->aD->Prop},h[i]?=some (.arr 1 (dB O) false)->K (.tup []) (h.set i (.arr 1 (dB (rS l a)) false))->aA prog 155 [.c (.own i 0 O.length)] h K:=λh0 hk=>zNz h0 (by omega) rfl (by rw[hd];exact hk)
  rw[hd] at hls;clear hd hlen hO hB
  repeat' (first|exact⟨⟩|refine sp ?_|refine hk rfl ?_)
  exact .inr ⟨2,rfl,rfl⟩
 | cons t T =>
  simp only[List.length_cons] at hlen ⊢;have h1:decide ((0:Int)<((T.length+1:Nat):Int))=true:=decide_eq_true (by omega);have hfc:=KJ (l:=l) (a:=t) (by omega);have hg0:(dB (t::T)).getD 0 []=[.i .i64 t]:=rfl;have htk:((dB (t::T)).drop 1).take T.length=dB T:=by rw[show (dB (t::T)).drop 1=dB T from rfl,<- eZ T,List.take_length]
  have htk:=PLift.up htk;cases hf:fF l t with
  | none =>
   have hsk:=hB.skip (.inl hf);rw[hf] at hfc;clear hB hf;have hsk:=PLift.up hsk
   repeat' (first|simp only[*,go_sem,Nat.reduceLT,Nat.reduceLeDiff,Nat.reduceEqDiff,↓reduceIte,Nat.reduceAdd,Int.reduceLE,Int.reduceToNat,Option.isSome_none,Option.getD_none]|refine uF (hfc) ?_|refine ai ?_)
   exact wK (T,O) ⟨hsk.down,hO⟩ (by simp only[List.length_cons];omega) (ND.trans (BU 6 1 1 T.length rfl rfl) (by rw[htk.down];exact iK (oQ [0,4,2] rfl hpK rfl wpK)))
  | some x =>
   rw[hf] at hfc;cases hc:O.contains x.i
   .have hn:t ∉ O:=by
     have e:=(pJ hf).2;rw[<- e];simpa using hc
    obtain⟨m1,m2,m3⟩:=hB.more hgr hf hn;have hsl:=wV O x.i;have hss:=TS O x.i hc;rw[hc] at hsl;clear hB hf hn m2;have m1:=PLift.up m1;have e1:(T++[x.p,x.s]).length=T.length+1-1+2:=by simp
    have e2:(O++[x.i]).length=O.length+1:=by simp
    have e1:=PLift.up e1;have e2:=PLift.up e2
    repeat' (first|simp only[*,go_sem,Nat.reduceLT,Nat.reduceLeDiff,Nat.reduceEqDiff,↓reduceIte,Nat.reduceAdd,Int.reduceLE,Int.reduceToNat,Nat.reduceBEq,Option.isSome_some,Option.getD_some,zIX,List.drop_succ_cons,List.drop_zero]|refine uF (hfc) ?_|((with_reducible refine And.intro ?_ ?_);((first|omega|decide))))
    exact wK (T++[x.p,x.s],O++[x.i]) ⟨m1.down,by simp;omega⟩ (by simp;omega) (by rw[e1.down,e2.down];exact iK (oQ [0,7,5] rfl hpK rfl wpK))
   .have hn:t∈O:=by
     have e:=(pJ hf).2;rw[<- e];simpa using hc
    have hsk:=hB.skip (.inr hn);have hsl:=wV O x.i;rw[hc] at hsl;clear hB hf hn;have hsk:=PLift.up hsk
    repeat' (first|simp only[*,go_sem,Nat.reduceLT,Nat.reduceLeDiff,Nat.reduceEqDiff,↓reduceIte,Nat.reduceAdd,Int.reduceLE,Int.reduceToNat,Option.isSome_some,Option.getD_some]|refine uF (hfc) ?_|refine ai ?_)
    exact wK (T,O) ⟨hsk.down,hO⟩ (by simp only[List.length_cons];omega) (ND.trans (BU 6 1 1 T.length rfl rfl) (by rw[htk.down];exact iK (oQ [0,4,2] rfl hpK rfl wpK)))
theorem sH{h:aD}{i n:Nat}{l:List Int}{a:Int}{K:DV->aD->Prop}(hl:l.length<=1000000)(hn:n=l.length)(h0:h[i]?=some (.arr 1 (dB l) false))(hk:K (.c (.p (.b (l.contains a)))) h):
  aA prog 108 [.c (.own i 0 n),.c (.p (.i .i64 a))] h K :=
 zC6 rfl (by rw[hn,<- eZ,List.take_length]) (WJ hl) h0 (λd hd=>by subst hd;exact⟨rfl,hk⟩)
theorem zOj{l:List Ly}{a b:Int}(hl:l.length<=100000)(hgr:OkG l):aA prog 59 [.c (.p (.sl 4 (dA l))),.c (.p (.i .i64 a)),.c (.p (.i .i64 b))] [] λr h=>r=.c (.p (.i .i64 (JQ l a b)))/\h=[]:=by
 have hA:=sE (a:=a) hl hgr;have hB:=sE (a:=b) hl hgr;have la:=yT l a;have lb:=yT l b;unfold JQ;rw[eZ] at hA hB;generalize rS l a=A at hA la ⊢;generalize rS l b=B at hB lb ⊢;refine eT func59 λX0 hX=>?_;simp only[f59,go_sem]
 repeat' (first|exact⟨⟩|refine sp ?_|refine uS [] (hB) ?_|refine uS [] (hA) ?_)
 refine aP aF aN (α:=Nat) (λk=>⟨28,[(8,.c (.own 0 0 B.length)),(16,.c (.own 1 0 A.length)),(17,.c (.p (.i .i64 A.length))),(18,.c (.p (.i .i64 k))),(7,.c (.p (.i .i64 ((((A.take k).filter λx=>B.contains x).getLast?).getD 0))))],[.arr 1 (dB B) false,.arr 1 (dB A) false]⟩)
  (λk=>k<=A.length) (λk=>A.length-k) 0 (Nat.zero_le _) (.inl (aB (by rw[hX];rfl) rfl rfl wkK)) ?_
 intro k hk;by_cases hlt:k<A.length
 .have hx:A[k]?=some A[k]:=List.getElem?_eq_getElem hlt;have hg:=sK hx;have h1:decide ((k:Int)<(A.length:Int))=true:=decide_eq_true (by omega);have h2:(k:Int)<(A.length:Int):=by omega
  have h3:(0:Int)<=k:=by omega
  have w1:IntKind.i64.wrap ((k:Int)+1)=k+1:=wrap_i64 (by omega) (by omega);have ht:((A.take (k+1)).filter λx=>B.contains x)=((A.take k).filter λx=>B.contains x)++(if B.contains A[k] then [A[k]] else []):=by
   rw[List.take_add_one,hx,List.filter_append];show _++List.filter _ [A[k]]=_;rw[List.filter_cons,List.filter_nil]
  generalize A[k]=x at hx hg ht;have hck:∀{h:aD} {i:Nat} {K:DV->aD->Prop},h[i]?=some (.arr 1 (dB B) false)->K (.c (.p (.b (B.contains x)))) h->aA prog 108 [.c (.own i 0 B.length),.c (.p (.i .i64 x))] h K:=λh0 hk=>sH (by omega) rfl h0 hk;clear hx hA hB;cases hc:B.contains x
  .rw[hc] at hck ht;rw[if_neg (by decide),List.append_nil] at ht;have ht:=PLift.up ht
   repeat' (first|exact⟨⟩|refine sp ?_|refine hck rfl ?_)
   exact dE (k+1) (by omega) (by omega) (by rw[ht.down];exact aB rfl rfl rfl wkK)
  .rw[hc] at hck ht;rw[if_pos rfl] at ht;have hv:((((A.take (k+1)).filter λx=>B.contains x).getLast?).getD 0)=x:=by rw[ht,List.getLast?_append];rfl
   have hv:=PLift.up hv;clear ht
   repeat' (first|exact⟨⟩|refine sp ?_|refine hck rfl ?_)
   exact dE (k+1) (by omega) (by omega) (by rw[hv.down];exact aB rfl rfl rfl wkK)
 .have hke:k=A.length:=by omega
  subst hke;rw[List.take_length];have h1:decide ((A.length:Int)<(A.length:Int))=false:=decide_eq_false (by omega);clear hA hB
  repeat' (first|exact⟨⟩|refine sp ?_)
def goK(S:List Int)(x:Ly):Bool:=!S.contains x.i
theorem zFB{S:List Int}{es:List (List PV)}{i p s:Int}{f:Bool}(hp:S.length<=1000000):
  aA prog 208 [.agg [.p (.i .i64 i),.p (.i .i64 p),.p (.i .i64 s),.p (.b f)],.c (.ptr 0 0)] [.box [.own 1 0 S.length],.arr 1 (dB S) false,.arr 4 es false]
   λr h=>r=.c (.p (.b (!S.contains i)))/\h=[.box [.own 1 0 S.length],.arr 1 (dB S) false,.arr 4 es false]:=by
 have hck:∀{h:aD} {j:Nat} {K:DV->aD->Prop},h[j]?=some (.arr 1 (dB S) false)->K (.c (.p (.b (S.contains i)))) h->aA prog 108 [.c (.own j 0 S.length),.c (.p (.i .i64 i))] h K:=λh0 hk=>sH hp rfl h0 hk;refine eT func208 λX0 hX=>?_;simp only[f208,go_sem]
 repeat' (simp only[*,go_sem,Nat.reduceLT,Nat.reduceEqDiff,↓reduceIte,Nat.reduceAdd,bP,aJ])
theorem zFC{S:List Int}{es:List (List PV)}{i p s:Int}{f:Bool}(hp:S.length<=1000000):
  aA prog 208 [.agg [.p (.i .i64 i),.p (.i .i64 p),.p (.i .i64 s),.p (.b f)],.c (.ptr 0 0)] [.box [.own 1 0 S.length],.arr 1 (dB S) false,.arr 4 es false,.box [.p (.i .i64 i),.p (.i .i64 p),.p (.i .i64 s),.p (.b f)]]
   λr h=>r=.c (.p (.b (!S.contains i)))/\h=[.box [.own 1 0 S.length],.arr 1 (dB S) false,.arr 4 es false,.box [.p (.i .i64 i),.p (.i .i64 p),.p (.i .i64 s),.p (.b f)]]:=by
 have hck:∀{h:aD} {j:Nat} {K:DV->aD->Prop},h[j]?=some (.arr 1 (dB S) false)->K (.c (.p (.b (S.contains i)))) h->aA prog 108 [.c (.own j 0 S.length),.c (.p (.i .i64 i))] h K:=λh0 hk=>sH hp rfl h0 hk;refine eT func208 λX0 hX=>?_;simp only[f208,go_sem]
 repeat' (simp only[*,go_sem,Nat.reduceLT,Nat.reduceEqDiff,↓reduceIte,Nat.reduceAdd,bP,aJ])
theorem zJu{t:List Ly}{S:List Int}(hp:S.length<=1000000)(ht:t.length<=1000000):
  aA prog 109 [.c (.own 2 0 t.length),.c (.clo 208 [.ptr 0 0])] [.box [.own 1 0 S.length],.arr 1 (dB S) false,.arr 4 (dA t) false]
   λr h=>(∃i:Nat,i<=t.length/\(∀j x,t[j]?=some x->j<i->goK S x=false)/\((∃x,t[i]?=some x/\goK S x=true/\r=.c (.p (.i .i64 i)))∨(i=t.length/\r=.c (.p (.i .i64 (-1))))))/\h=[.box [.own 1 0 S.length],.arr 1 (dB S) false,.arr 4 (dA t) false]:=by
 refine eT func109 λX0 hX=>?_;simp only[f109,go_sem]
 repeat' (first|exact⟨⟩|refine sp ?_)
 refine aP aF aN (α:=Nat) (λk=>⟨19,[(0,.c (.own 2 0 t.length)),(1,.c (.clo 208 [.ptr 0 0])),(7,.c (.p (.i .i64 t.length))),(8,.c (.p (.i .i64 k)))],[.box [.own 1 0 S.length],.arr 1 (dB S) false,.arr 4 (dA t) false]⟩)
  (λk=>k<=t.length/\∀j x,t[j]?=some x->j<k->goK S x=false) (λk=>t.length-k) 0 ⟨Nat.zero_le _,λj x _ h=>by omega⟩ (.inl (aB (by rw[hX];rfl) rfl rfl wkS)) ?_
 rintro k ⟨hk,hs⟩;by_cases hlt:k<t.length
 .have hx:t[k]?=some t[k]:=List.getElem?_eq_getElem hlt;have hg:=nS hx;have h1:decide ((k:Int)<(t.length:Int))=true:=decide_eq_true (by omega);have hli:(k:Int)<(t.length:Int):=by omega
  have w1:IntKind.i64.wrap ((k:Int)+1)=k+1:=wrap_i64 (by omega) (by omega);generalize t[k]=x at hx hg;cases hb:goK S x
  .have hs':k+1<=t.length/\∀j y,t[j]?=some y->j<k+1->goK S y=false:=⟨by omega,λj y hy hj=>by
    rcases Nat.lt_or_ge j k with h|h
    .exact hs j y hy h
    .have:j=k:=by omega
     subst this;rw[hx] at hy;cases hy;exact hb⟩
   have hb2:(!S.contains x.i)=false:=hb;clear hs hx hb
   repeat' (first|exact⟨⟩|refine sp ?_|refine ai ?_)
   refine aA.mono (zFB hp) ?_;rintro _ _ ⟨rfl,rfl⟩;rw[hb2]
   repeat' (first|exact⟨⟩|refine sp ?_)
   exact dE (k+1) hs' (by omega) (aB rfl rfl rfl wkS)
  .have hb2:(!S.contains x.i)=true:=hb
   repeat' (first|exact⟨⟩|refine sp ?_|refine ai ?_)
   refine aA.mono (zFB hp) ?_;rintro _ _ ⟨rfl,rfl⟩;rw[hb2];clear hb2
   repeat' (simp only[*,go_sem,Nat.reduceLT,Nat.reduceEqDiff,↓reduceIte,Int.reduceNeg,bP,aJ])
   exact⟨k,hk,hs,.inl ⟨x,hx,hb,rfl⟩⟩
 .have h1:decide ((k:Int)<(t.length:Int))=false:=decide_eq_false (by omega);have hk2:k=t.length:=by omega
  subst hk2
  repeat' (simp only[*,go_sem,Nat.reduceLT,Nat.reduceEqDiff,↓reduceIte,Nat.reduceAdd,Int.reduceNeg,bP,aJ])
  refine⟨t.length,Nat.le_refl _,hs,.inr ?_⟩
  first|exact⟨rfl,rfl⟩|rfl
theorem zDS{t:List Ly}{S:List Int}{K:DV->aD->Prop}(hp:S.length<=1000000)(ht:t.length<=1000000)
  (hk:∀es:List (List PV),es.take (t.filter λx=>!goK S x).length=dA (t.filter λx=>!goK S x)->K (.c (.own 2 0 (t.filter λx=>!goK S x).length)) [.box [.own 1 0 S.length],.arr 1 (dB S) false,.arr 4 es false]):
  aA prog 207 [.c (.own 2 0 t.length),.c (.clo 208 [.ptr 0 0])] [.box [.own 1 0 S.length],.arr 1 (dB S) false,.arr 4 (dA t) false] K:=by
 refine VP aF aN func207 rfl rfl λX0 hX=>?_;simp only[f207,go_sem]
 repeat' (first|exact⟨⟩|refine sp ?_)
 refine aA.mono (zJu hp ht) ?_;rintro _ _ ⟨⟨i0,hi0,hbef,hcase⟩,rfl⟩;rcases hcase with⟨x0,hx0,hg0,rfl⟩|⟨rfl,rfl⟩
 .have hil:i0<t.length:=(List.getElem?_eq_some_iff.1 hx0).1;have q:((i0:Int) == -1)=false:=by rw[beq_eq_false_iff_ne];omega
  have w0:IntKind.i64.wrap ((i0:Int)+1)=(i0+1:Nat):=wrap_i64 (by omega) (by omega)
  repeat' (first|exact⟨⟩|refine sp ?_)
  have hself:(t.take i0).filter (λx=>!goK S x)=t.take i0:=List.filter_eq_self.2 λx hx=>by
   obtain⟨j,hj,rfl⟩:=List.mem_iff_getElem.1 hx;rw[List.getElem_take];have hj2:j<i0:=by simp at hj;omega
   rw[hbef j _ (List.getElem?_eq_getElem (by omega)) hj2];rfl
  have h0:(t.take (i0+1)).filter (λx=>!goK S x)=t.take i0:=by
   rw[fJ hx0,hself,hg0];simp
  refine aP aF aN (α:=Nat × Nat × List Ly) (λx=>⟨42,[(0,.c (.own 2 0 t.length)),(1,.c (.clo 208 [.ptr 0 0])),(5,.c (.p (.i .i64 x.2.1))),(6,.c (.p (.i .i64 x.1)))],[.box [.own 1 0 S.length],.arr 1 (dB S) false,.arr 4 (dA x.2.2) false]⟩)
   (λx=>x.1<=t.length/\x.2.1<x.1/\x.2.2.length=t.length/\x.2.2.take x.2.1=(t.take x.1).filter (λx=>!goK S x)/\x.2.2.drop x.1=t.drop x.1) (λx=>t.length-x.1) (i0+1,i0,t)
   ⟨by omega,by simp,rfl,by rw[h0],rfl⟩ (.inl (aB (by rw[hX];rfl) rfl rfl wkS)) ?_
  clear hself h0 hbef hx0 hg0 q w0 hil hi0;rintro⟨j,i,R⟩ ⟨hj,hij,hRl,hRt,hRd⟩;simp only at hj hij hRl hRt hRd;by_cases hlt:j<t.length
  .have hx:t[j]?=some t[j]:=List.getElem?_eq_getElem hlt;have hxR:R[j]?=some t[j]:=by
    have h3:R[j]?=t[j]? := by
     have:=congrArg (·[0]?) hRd
     simpa[List.getElem?_drop] using this
    exact h3.trans hx
   have hg:=nS hxR;have h1:decide ((j:Int)<(t.length:Int))=true:=decide_eq_true (by omega);have hli:(j:Int)<(t.length:Int):=by omega
   have hli2:(i:Int)<(t.length:Int):=by omega
   have w1:IntKind.i64.wrap ((j:Int)+1)=(j+1:Nat):=wrap_i64 (by omega) (by omega);have w2:IntKind.i64.wrap ((i:Int)+1)=(i+1:Nat):=wrap_i64 (by omega) (by omega);have hnx:=fJ (g:=λx=>!goK S x) hx;generalize t[j]=x at hx hxR hg hnx;have hRd2:R.drop (j+1)=t.drop (j+1):=by rw[<- List.drop_drop,<- List.drop_drop,hRd]
   cases hb:goK S x
   .rw [hb] at hnx;have hJ:j+1<=t.length/\i+1<j+1/\(R.set i x).length=t.length/\(R.set i x).take (i+1)=(t.take (j+1)).filter (λx=>!goK S x)/\(R.set i x).drop (j+1)=t.drop (j+1):=by
     refine⟨by omega,by omega,by simp[hRl],?_,?_⟩
     .rw[hnx,List.take_add_one,List.getElem?_set_self (by omega),List.take_set,List.set_eq_of_length_le (by rw[List.length_take];omega),hRt];rfl
     .rw[List.drop_set,if_pos (by omega),hRd2]
    have hb2:(!S.contains x.i)=false:=hb;have hgi:=nS (l:=R) (k:=i) (List.getElem?_eq_getElem (by omega));generalize (R[i]'(by omega))=y at hgi;clear hnx hRt hRd hRd2 hx hxR hb
    repeat' (first|exact⟨⟩|refine sp ?_|refine ai ?_)
    refine aA.mono (zFC hp) ?_;rintro _ _ ⟨rfl,rfl⟩;rw[hb2]
    repeat' (first|exact⟨⟩|refine sp ?_|refine ai ?_)
    exact dE (j+1,i+1,R.set i x) hJ (by simp only;omega) (aB rfl (by simp only[<- zAm];rfl) rfl wkS)
   .rw[hb] at hnx;have hJ:j+1<=t.length/\i<j+1/\R.length=t.length/\R.take i=(t.take (j+1)).filter (λx=>!goK S x)/\R.drop (j+1)=t.drop (j+1):=⟨by omega,by omega,hRl,by rw[hnx,hRt];simp,hRd2⟩
    have hb2:(!S.contains x.i)=true:=hb;clear hnx hRt hRd hRd2 hx hxR hb
    repeat' (first|exact⟨⟩|refine sp ?_|refine ai ?_)
    refine aA.mono (zFC hp) ?_;rintro _ _ ⟨rfl,rfl⟩;rw[hb2]
    repeat' (first|exact⟨⟩|refine sp ?_)
    exact dE (j+1,i,R) hJ (by simp only;omega) (aB rfl rfl rfl wkS)
  .have h1:decide ((j:Int)<(t.length:Int))=false:=decide_eq_false (by omega);have htt:t.take j=t:=List.take_of_length_le (by omega);rw[htt] at hRt;have hil:(t.filter λx=>!goK S x).length=i:=by
    rw[<- hRt,List.length_take];omega
   have hli:(i:Int)<=(t.length:Int):=by omega
   have hi0:(0:Int)<=i:=by omega
   have hni:i+(t.length-i)=R.length:=by omega
   rw[hil] at hk;clear htt hRd hij
   repeat' (first|exact⟨⟩|refine sp ?_|refine ai ?_)
   all_goals first|refine hk _ ?_|refine⟨by omega,hk _ ?_⟩
   all_goals exact List.take_left' (by simp[dA,hil])
 .have hself:t.filter (λx=>!goK S x)=t:=List.filter_eq_self.2 λx hx=>by
   obtain⟨j,hj,rfl⟩:=List.mem_iff_getElem.1 hx;rw[hbef j _ (List.getElem?_eq_getElem hj) hj];rfl
  rw[hself] at hk;clear hself
  repeat' (first|exact⟨⟩|refine sp ?_)
  all_goals exact hk _ (List.take_of_length_le (by simp))
end Go.Proofs.YtflcjdohmojepaaGreatDoor
end
