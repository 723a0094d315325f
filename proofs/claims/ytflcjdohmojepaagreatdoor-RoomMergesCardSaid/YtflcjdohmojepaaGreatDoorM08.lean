/- Part 9 of the proof of roomMerges_card, set without needless blanks. No condition. -/
import Derived.Sort.Grow
import Derived.Sort.Row
import Derived.Sort.EncStr
import Derived.Lib.SlicesCompact
import Derived.Laws.AppendOwn
import Derived.Test.YtflcjdohmojepaaGreatDoorM06
import Derived.Shelf.Small.Strs
import Derived.Lib.SplitLaws
import Derived.Lib.LastIndexByte
import Derived.Lib.Strings
import Derived.Lib.Bytes
import Derived.Test.YtflcjdohmojepaaGreatDoorM04
import Derived.HandedShaped
import Derived.Lay
import Derived.MakeChecks
import Derived.SizedLaws
set_option linter.all false
set_option maxRecDepth 100000
set_option maxHeartbeats 16000000
section
section
section
namespace Go.Dm
open Go Go.Sort Go.Proofs
theorem uZ{w:World}{S:Nat->Prop}{bl:Nat}:∀{ss:List (List UInt8)} {off:Nat},fP w S 1 bl off (encS ss)↔∀j (hj:j<ss.length),w.cell? ⟨bl,off+j,none⟩=some (.string ⟨ss[j].toArray⟩)
 | [],off=>by simp[encS,fP]
 | a::ss,off=>by
  have ih:=@uZ w S bl ss (off+1);show ((([PV.s a]:List PV).length=1/\gT w S bl off [.s a])/\fP w S 1 bl (off+1) (encS ss))↔_;rw[ih];simp only[gT,cZ,List.length_cons,List.length_nil,and_true,true_and];constructor
  .rintro⟨⟨v,h1,rfl⟩,h2⟩ j hj;cases j with
   | zero=>exact h1
   | succ j=>simpa[Nat.add_assoc,Nat.add_comm 1 j] using h2 j (by simpa using hj)
  .intro h;refine⟨⟨_,by simpa using h 0 (by simp),rfl⟩,λj hj=>?_⟩
   have:=h (j+1) (by simpa using hj);rw[show off+(j+1)=off+1+j by omega] at this
   exact this
theorem zI{w:World}{os:Array Obj}{b:Nat}(hb:b<w.heap.size):(grow w os).heap[b]?=w.heap[b]? := by
 simp only[grow];exact Array.getElem?_append_left hb
theorem vT.lt{w:World}{b:Nat}{o:Option Obj}(h:vT (w.heap[b]?) o):b<w.heap.size:=by
 obtain⟨x,h1⟩:=h.some;rcases Nat.lt_or_ge b w.heap.size with hb|hb
 .exact hb
 .rw[Array.getElem?_eq_none hb] at h1;cases h1
theorem Step.grew{X:Ctx}(hi:HInv X)(os:Array Obj):Step X (X.at_ (grow X.w os)) where
 size:=by simp only[Ctx.at_,grow,Array.size_append];omega
 os:=rfl
 tape:=rfl
 output:=tM.rfl'
 kept:=λb hb=>⟨hb,zI (hi.slt b hb)⟩
 len:=Nat.le_refl _
 ids:=λid db' _ h hl=>⟨db',h,cM.refl hl,rfl,λg hg=>by
  have h1:=(hi.blk id db' h).same hl g hg;rw[show (X.at_ (grow X.w os)).w.heap[g.1]?=X.w.heap[g.1]? from zI h1.lt];exact h1⟩
 frame:=λb hb _=>zI hb
 mine:=λid db g h hl hf hg=>.inr ⟨id,db,g,h,hl,hf,hg,rfl⟩
 upper:=λ_ h=>.inl h
theorem HInv.grew{X:Ctx}(hi:HInv X)(os:Array Obj):HInv (X.at_ (grow X.w os)) where
 slt:=λb hb=>by have:=hi.slt b hb;simp only[Ctx.at_,grow,Array.size_append];omega
 blk:=λid db h=>by
  by_cases hl:db.live=true
  .exact(hi.blk id db h).move (Step.grew hi os) rfl λg hg=>zI ((hi.blk id db h).same hl g hg).lt
  .cases db<;>simp_all[DB.live,eC]
 own:=hi.own
 inj:=hi.inj
theorem GB{w:World}{S:Nat->Prop}{bl off:Nat}{ss:List (List UInt8)}{arr:Array Value}{el:TypeId}{fz:Nat × Nat}(hb:w.heap[bl]?=some (.cells arr el fz))(hf:ZQ fz off arr.size)(hs:off+ss.length<=arr.size)(hl:fP w S 1 bl off (encS ss)):Holds encStr w bl off ss.toArray:=by
 intro j hj;have hj':j<ss.length:=by simpa using hj
 refine⟨?_,?_⟩
 .rw[uZ.1 hl j hj'];simp[hj']
 .have:=hf.at_ (off+j) (by omega) (by omega);simp only[World.frozen?,hb];simpa using this
theorem sB{w:World}{n bl off:Nat}{d:Array (List UInt8)}{arr:Array Value}{el:TypeId}{fz:Nat × Nat}(hb:w.heap[bl]?=some (.cells arr el fz)):Touched w (putRow encStr (Sort.ahead w n) bl off d) bl where
 os:=rfl
 tape:=rfl
 output:=⟨rfl,Nat.le_add_right _ _⟩
 size:=by simp
 other:=λb hne=>by simp[putRow,mapBlock,Array.getElem?_modify,Ne.symm hne]
 here:=.inl ⟨arr,el,fz,putCells encStr off d arr,el,fz,hb,by simp[putRow,mapBlock,Array.getElem?_modify,hb,onCells],by simp[putCells]⟩
theorem WO{P:Program}{f:FuncId}(hen:∀(vals:List Value) (w:World),(callFunc f vals.toArray).run P w=.ok (.enter f vals.toArray) w)
  (hS:∀(blk off cap:Nat) (ss:List (List UInt8)) (w:World),Holds encStr w blk off ss.toArray->blk<w.heap.size->ss.length<4611686018427387904 ->
   Calls P f #[.slice (some ⟨blk,off,none⟩) ss.length cap] w λe w'=>e=.returned (.tuple #[])/\∃n os,w'=grow (putRow encStr (Sort.ahead w n) blk off (ss.mergeSort λx y=>decide (x<=y)).toArray) os)
  (hN:∀(p:Option Addr) (cap:Nat) (w:World),Calls P f #[.slice p 0 cap] w λe w'=>e=.returned (.tuple #[])/\w'=w)
  {h:aD}{id:Nat}{ss:List (List UInt8)}(hid:h[id]?=some (.arr 1 (encS ss) false))(hsz:ss.length<4611686018427387904):
  aA P f [.c (.own id 0 ss.length)] h λd h'=>d=.tup []/\h'=h.set id (.arr 1 (encS (ss.mergeSort λx y=>decide (x<=y))) false):=by
 intro X vals hh hi gd hr;subst hh;obtain⟨v,rfl,hv⟩:∃v,vals=[v]/\bD X (.c (.own id 0 ss.length)) v:=by
  cases vals with
  | nil=>exact hr.elim
  | cons v vs=>cases vs with
   | nil=>exact⟨v,rfl,hr.1⟩
   | cons _ _=>exact hr.2.elim
 refine .inl ⟨hen _ _,?_⟩;obtain⟨h1,h2,h3⟩:=hv;obtain⟨h4,h5⟩:=h3 _ _ _ hid;have hb:=hi.blk id _ hid;have e0:ss=[]->X.h.set id (.arr 1 (encS (ss.mergeSort λx y=>decide (x<=y))) false)=X.h:=by
  rintro rfl;rw[List.mergeSort_nil];exact(List.getElem?_eq_some_iff.1 hid).elim λhlt he=>by rw[<- he];exact List.set_getElem_self hlt
 have fin0:ss=[]->∀(p:Option Addr) (cap:Nat),v=.slice p 0 cap->Calls P f [v].toArray X.w λe w'=>∃v,e=.returned v/\Ret X (λd h'=>d=.tup []/\h'=X.h.set id (.arr 1 (encS (ss.mergeSort λx y=>decide (x<=y))) false)) v w':=by
  rintro hs p cap rfl;refine(hN p cap X.w).mono ?_;rintro e w' ⟨rfl,rfl⟩;exact⟨_,rfl,.tup [],X,rfl,hi,Step.refl hi,⟨[],rfl,True.intro⟩,rfl,(e0 hs).symm⟩
 cases hg:X.G id with
 | none =>
  rw [hg] at h5;simp only at h5;have hs:ss=[]:=by
   rcases hb with hb|⟨g,_,_,_,hb,_⟩
   .simpa[encS] using hb.2
   .rw[hg] at hb;cases hb
  exact fin0 hs _ _ h5
 | some g =>
  rw[hg] at h5;simp only at h5;obtain⟨cap,o,arr,el,fz,k1,k2,k3,k4,k5,k6⟩:=h5;by_cases hz:ss.length=0
  .rw[hz] at k2;exact fin0 (List.length_eq_zero_iff.1 hz) _ _ k2
  .have ho:o=g.2:=by rcases k3 with k3|k3<;>omega
   subst ho;rcases hb with hb|⟨g',arr',el',fz',b1,b2,b3,b4,b5⟩
   .rw[hg] at hb;cases hb.1
   rw [hg] at b1;cases b1;rw[k1] at b2;cases b2;rw[encS_len,Nat.mul_one] at b3;have hH:=GB k1 b4.1 b3 b5;have hlt:g.1<X.w.heap.size:=by
    rcases Nat.lt_or_ge g.1 X.w.heap.size with hb|hb
    .exact hb
    .rw[Array.getElem?_eq_none hb] at k1;cases k1
   subst k2;refine(hS g.1 g.2 cap ss X.w hH hlt hsz).mono ?_;rintro e w' ⟨rfl,n,os,rfl⟩;generalize hst:(ss.mergeSort λx y=>decide (x<=y))=st;have hsl:st.length=ss.length:=by rw[<- hst];exact List.length_mergeSort ..
   have ht:=sB (n:=n) (off:=g.2) (d:=st.toArray) k1;have hsb:cM (.arr 1 (encS ss) false) (.arr 1 (encS st) false):=⟨rfl,by rw[encS_len,encS_len];omega⟩
   have hbb:eC (X.put (putRow encStr (Sort.ahead X.w n) g.1 g.2 st.toArray) id (.arr 1 (encS st) false)) id (.arr 1 (encS st) false):=by
    refine .inr ⟨g,putCells encStr g.2 st.toArray arr,el,fz,hg,by simp[Ctx.put,putRow,mapBlock,Array.getElem?_modify,k1,onCells],?_,?_,?_⟩
    .rw[encS_len,Nat.mul_one,hsl];simpa[putCells] using b3
    .simpa[putCells] using b4
    .refine uZ.2 λj hj=>?_;have:=cell?_putRow encStr (Sort.ahead X.w n) g.1 g.2 ss.toArray st.toArray (λj hj=>hH j hj) (by simpa using hsl) j (by simpa using hj);show (putRow encStr (Sort.ahead X.w n) g.1 g.2 st.toArray).cell? _=_;rw[this];simp[hj]
   have hi1:=HInv.put hi hid rfl rfl hg ht hsb rfl hbb;have hs1:=Step.put hi hid rfl rfl hg ht hsb rfl;exact⟨_,rfl,.tup [],_,rfl,HInv.grew hi1 os,hs1.trans hi1 (Step.grew hi1 os),⟨[],rfl,True.intro⟩,rfl,rfl⟩
end Go.Dm
end
section
namespace Go.Dm
open Go Go.Sort Go.Proofs
theorem EN{P:Program}{f:FuncId}(hen:∀(vals:List Value) (w:World),(callFunc f vals.toArray).run P w=.ok (.enter f vals.toArray) w)
  (hS:∀(blk off cap:Nat) (ss:List (List UInt8)) (w:World),Holds encStr w blk off ss.toArray->ss.length<=9223372036854775807->ss.length<=cap ->
   Calls P f #[.slice (some ⟨blk,off,none⟩) ss.length cap] w λe w'=>e=.returned (.slice (some ⟨blk,off,none⟩) (Lib.compact ss).length cap)/\∃q,w'=putRow encStr (Sort.ahead w q) blk off (Lib.compact ss++List.replicate (ss.length-(Lib.compact ss).length) []).toArray)
  (hN:∀(p:Option Addr) (cap:Nat) (w:World),Calls P f #[.slice p 0 cap] w λe w'=>e=.returned (.slice p 0 cap)/\w'=w)
  {h:aD}{id:Nat}{ss:List (List UInt8)}(hid:h[id]?=some (.arr 1 (encS ss) false))(hsz:ss.length<4611686018427387904)(hcl:∀l:List (List UInt8),(Lib.compact l).length<=l.length):
  aA P f [.c (.own id 0 ss.length)] h λd h'=>d=.c (.own id 0 (Lib.compact ss).length)/\h'=h.set id (.arr 1 (encS (Lib.compact ss++List.replicate (ss.length-(Lib.compact ss).length) [])) false):=by
 intro X vals hh hi gd hr;subst hh;obtain⟨v,rfl,hv⟩:∃v,vals=[v]/\bD X (.c (.own id 0 ss.length)) v:=by
  cases vals with
  | nil=>exact hr.elim
  | cons v vs=>cases vs with
   | nil=>exact⟨v,rfl,hr.1⟩
   | cons _ _=>exact hr.2.elim
 refine .inl ⟨hen _ _,?_⟩;obtain⟨h1,h2,h3⟩:=hv;obtain⟨h4,h5⟩:=h3 _ _ _ hid;have hb:=hi.blk id _ hid;have e0:ss=[]->X.h.set id (.arr 1 (encS (Lib.compact ss++List.replicate (ss.length-(Lib.compact ss).length) [])) false)=X.h:=by
  rintro rfl;rw[show (Lib.compact []++List.replicate (List.length ([]:List (List UInt8))-(Lib.compact ([]:List (List UInt8))).length) []:List (List UInt8))=[] from rfl]
  exact(List.getElem?_eq_some_iff.1 hid).elim λhlt he=>by rw[<- he];exact List.set_getElem_self hlt
 have fin0:ss=[]->∀(p:Option Addr) (cap:Nat),v=.slice p 0 cap->Calls P f [v].toArray X.w λe w'=>∃v,e=.returned v/\Ret X (λd h'=>d=.c (.own id 0 (Lib.compact ss).length)/\h'=X.h.set id (.arr 1 (encS (Lib.compact ss++List.replicate (ss.length-(Lib.compact ss).length) [])) false)) v w':=by
  rintro hs p cap rfl;refine(hN p cap X.w).mono ?_;rintro e w' ⟨rfl,rfl⟩;refine⟨_,rfl,.c (.own id 0 (Lib.compact ss).length),X,rfl,hi,Step.refl hi,?_,rfl,(e0 hs).symm⟩;subst hs;exact⟨h1,h2,h3⟩
 cases hg:X.G id with
 | none =>
  rw [hg] at h5;simp only at h5;have hs:ss=[]:=by
   rcases hb with hb|⟨g,_,_,_,hb,_⟩
   .simpa[encS] using hb.2
   .rw[hg] at hb;cases hb
  exact fin0 hs _ _ h5
 | some g =>
  rw[hg] at h5;simp only at h5;obtain⟨cap,o,arr,el,fz,k1,k2,k3,k4,k5,k6⟩:=h5;by_cases hz:ss.length=0
  .rw[hz] at k2;exact fin0 (List.length_eq_zero_iff.1 hz) _ _ k2
  .have ho:o=g.2:=by rcases k3 with k3|k3<;>omega
   subst ho;rcases hb with hb|⟨g',arr',el',fz',b1,b2,b3,b4,b5⟩
   .rw[hg] at hb;cases hb.1
   rw [hg] at b1;cases b1;rw[k1] at b2;cases b2;rw[encS_len,Nat.mul_one] at b3;have hH:=GB k1 b4.1 b3 b5;have hlt:g.1<X.w.heap.size:=by
    rcases Nat.lt_or_ge g.1 X.w.heap.size with hb|hb
    .exact hb
    .rw[Array.getElem?_eq_none hb] at k1;cases k1
   subst k2;refine(hS g.1 g.2 cap ss X.w hH (by omega) k4).mono ?_;rintro e w' ⟨rfl,n,rfl⟩;generalize hst:(Lib.compact ss++List.replicate (ss.length-(Lib.compact ss).length) [])=st;have hsl:st.length=ss.length:=by rw[<- hst];have:=hcl ss;simp;omega
   have ht:=sB (n:=n) (off:=g.2) (d:=st.toArray) k1;have hsb:cM (.arr 1 (encS ss) false) (.arr 1 (encS st) false):=⟨rfl,by rw[encS_len,encS_len];omega⟩
   have hbb:eC (X.put (putRow encStr (Sort.ahead X.w n) g.1 g.2 st.toArray) id (.arr 1 (encS st) false)) id (.arr 1 (encS st) false):=by
    refine .inr ⟨g,putCells encStr g.2 st.toArray arr,el,fz,hg,by simp[Ctx.put,putRow,mapBlock,Array.getElem?_modify,k1,onCells],?_,?_,?_⟩
    .rw[encS_len,Nat.mul_one,hsl];simpa[putCells] using b3
    .simpa[putCells] using b4
    .refine uZ.2 λj hj=>?_;have:=cell?_putRow encStr (Sort.ahead X.w n) g.1 g.2 ss.toArray st.toArray (λj hj=>hH j hj) (by simpa using hsl) j (by simpa using hj);show (putRow encStr (Sort.ahead X.w n) g.1 g.2 st.toArray).cell? _=_;rw[this];simp[hj]
   have hi1:=HInv.put hi hid rfl rfl hg ht hsb rfl hbb;have hs1:=Step.put hi hid rfl rfl hg ht hsb rfl;refine⟨_,rfl,.c (.own id 0 (Lib.compact ss).length),_,rfl,hi1,hs1,⟨by simpa[Ctx.put] using h1,rfl,λk es ro hd=>?_⟩,rfl,rfl⟩
   rcases cG hd with⟨_,he,_⟩|⟨hne,_⟩
   .cases he;have:=hcl ss;refine⟨by rw[encS_len];omega,?_⟩
    rw[show (X.put (putRow encStr (Sort.ahead X.w n) g.1 g.2 st.toArray) id (.arr 1 (encS st) false)).G id=some g from hg]
    refine⟨cap,g.2,putCells encStr g.2 st.toArray arr,el,fz,by simp[Ctx.put,putRow,mapBlock,Array.getElem?_modify,k1,onCells],rfl,.inr (by omega),by omega,k5,by simpa[putCells] using k6⟩
   .exact absurd rfl hne
end Go.Dm
end
section
namespace Go.Dm
open Go Go.Lib Go.Proofs
theorem nP{P:Program}{T:Tab}(hT:bM P T){f:FuncId}{e:Nat}(hk:(T e).k≠.no)(hs:0<(T e).size)
  (hen:∀(vals:List Value) (w:World),(callFunc f vals.toArray).run P w=.ok (.enter f vals.toArray) w)
  (hR:∀w:World,Calls P f #[.slice none 0 0,.int .i64 (0:Nat)] w λe w'=>e=.returned (.slice none 0 0)/\w'=w)
  (hG:∀(i0:TypeInfo) (z:Value) (n:Nat) (w:World),P.info? e=some i0->i0.zero=some z->0<i0.size->0<n->n*i0.bytes<=140737488355328->n<=4611686018427387904 ->
   Calls P f #[.slice none 0 0,.int .i64 n] w λe' w'=>e'=.returned (.slice (some ⟨w.heap.size,0,none⟩) 0 (grownCap w n 0 e)) /\
    w'=w.drew.alloc (.cells (#[]++Builtin.zeroCells z.cells n++Builtin.zeroCells z.cells (grownCap w n 0 e-n)) e))
  {h:aD}{n:Nat}(hb:n*(T e).bytes<=140737488355328)(hn:n<=4611686018427387904):
  aA P f [.c (.p .nil),.c (.p (.i .i64 n))] h λd h'=>d=.c (.own h.length 0 0)/\h'=h++[.arr (T e).size [] false]:=by
 intro X vals hh hi gd hr;subst hh;obtain⟨rfl⟩:vals=[.slice none 0 0,.int .i64 n]:=by
  cases vals with
  | nil=>exact hr.elim
  | cons v vs=>cases vs with
   | nil=>exact hr.2.elim
   | cons u us=>cases us with
    | cons _ _=>exact hr.2.2.elim
    | nil =>
     have h1:v=.slice none 0 0:=hr.1;have h2:u=.int .i64 n:=hr.2.1;rw[h1,h2]
 refine .inl ⟨hen _ _,?_⟩;rcases Nat.eq_zero_or_pos n with rfl|hp
 .refine(hR X.w).mono ?_;rintro e w' ⟨rfl,rfl⟩;obtain⟨h1,h2⟩:=virt hi (T _).size;exact⟨_,rfl,.c (.own X.h.length 0 0),X.virt _,rfl,h2,h1,iQ rfl,rfl,rfl⟩
 .obtain ⟨_,i,z,g1,g2,g3,g4,g5,g6,g7,g8⟩:=cC hT hk;have hz:z.cells.size=(T e).size:=by
   have:=congrArg List.length g5;simp only[List.length_map] at this;rw[g6,this];simp
  refine(hG i z n X.w g1 g4 (by omega) hp (by rw[g3];exact hb) hn).mono ?_;rintro e' w' ⟨rfl,rfl⟩;have hc1:=grownCap_ge X.w n 0 e;have hc2:=grownCap_le_maxLen X.w n 0 e (by unfold maxLen;omega);generalize grownCap X.w n 0 e=c at hc1 hc2;have hgw:=(Grew.alloc X.w.drew (.cells (#[]++Builtin.zeroCells z.cells n++Builtin.zeroCells z.cells (c-n)) e)).drew;obtain⟨k1,k2⟩:=sW (k:=(T e).size) (es:=[]) (vs:=[]) hi hgw (λx hx=>by simp at hx) True.intro (λj v hj=>by simp at hj) (by simp) (tQ.zero _ _ _)
  exact ⟨_,rfl,_,_,rfl,k2,k1,tC (k:=(T e).size) (es:=[]) hgw (by simp) (by omega) hc2 (by
   have hq:n*(T e).size+(c-n)*(T e).size=c*(T e).size:=by rw[<- Nat.add_mul];congr 1;omega
   simp only[Array.size_append,size_zeroCells,hz,List.size_toArray,List.length_nil];omega),rfl,rfl⟩
end Go.Dm
end
section
namespace Go.Dm
open Go Go.Proofs
theorem enters {P:Program} {f:FuncId} {fn:Func} {c:Code} (hf:P.funcs[f]?=some fn) (hb:fn.body=some c) (hn:(fn.name == "runtime.NumGoroutine")=false) (vals:List Value) (w:World):(callFunc f vals.toArray).run P w=.ok (.enter f vals.toArray) w:=by
 have hn':¬ fn.name = "runtime.NumGoroutine" := by simpa using hn
 simp[callFunc,hf,hn',hb]
theorem WQ{P:Program}{f:FuncId}{g:List UInt8->List UInt8->Int}(hen:∀(vals:List Value) (w:World),(callFunc f vals.toArray).run P w=.ok (.enter f vals.toArray) w)
  (hC:∀(a b:ByteArray) (w:World),Calls P f #[.string a,.string b] w λe w'=>e=.returned (.int .i64 (g a.data.toList b.data.toList))/\w'=w){a b:List UInt8}:
  aA P f [.c (.p (.s a)),.c (.p (.s b))] [] λr h=>r=.c (.p (.i .i64 (g a b)))/\h=[]:=by
 intro X vals hh hi gd hr;obtain⟨rfl⟩:vals=[.string ⟨a.toArray⟩,.string ⟨b.toArray⟩]:=by
  cases vals with
  | nil=>exact hr.elim
  | cons v vs=>cases vs with
   | nil=>exact hr.2.elim
   | cons u us=>cases us with
    | cons _ _=>exact hr.2.2.elim
    | nil =>
     have h1:v=.string ⟨a.toArray⟩:=hr.1;have h2:u=.string ⟨b.toArray⟩:=hr.2.1;rw[h1,h2]
 refine .inl ⟨hen _ _,(hC _ _ X.w).mono ?_⟩;rintro e w' ⟨rfl,rfl⟩;exact⟨_,rfl,.c (.p (.i .i64 (g a b))),X,rfl,hi,Step.refl hi,rfl,rfl,hh⟩
def ED(a b:List UInt8):Int:=if cD a b then -1 else if a==b then 0 else 1
theorem pE{a b:List UInt8}:decide (ED a b<0)=cD a b:=by
 unfold ED;cases cD a b
 .cases a==b<;>rfl
 .rfl
theorem JW{a b:List UInt8}:(ED a b==0)=(a==b):=by
 unfold ED;cases hb:cD a b
 .cases a==b<;>simp
 .rw[jH hb];simp
theorem pF:∀a b:List UInt8,Lib.compareBytes a b=ED a b
 | [],[]=>rfl
 | [],_::_=>rfl
 | _::_,[]=>by simp[Lib.compareBytes,ED,JR]
 | x::a,y::b=>by
  have ih:=pF a b;unfold Lib.compareBytes;rw[ih];unfold ED;rw[tW];by_cases h1:x<y
  .simp[h1]
  .by_cases h2:y<x
   .have hne:x≠y:=by rintro rfl;exact h1 h2
    simp[h1,h2,hne]
   .have he:x=y:=by
     rw[UInt8.lt_iff_toNat_lt] at h1 h2;exact UInt8.toNat_inj.1 (by omega)
    subst he;simp
end Go.Dm
end
end
section
namespace Go.Dm
open Go Go.Proofs
theorem EO{P:Program}{f:FuncId}{g:List UInt8->List UInt8->Bool}(hen:∀(vals:List Value) (w:World),(callFunc f vals.toArray).run P w=.ok (.enter f vals.toArray) w)
  (hC:∀(a b:ByteArray) (w:World),Calls P f #[.string a,.string b] w λe w'=>e=.returned (.bool (g a.data.toList b.data.toList))/\w'=w){a b:List UInt8}:
  aA P f [.c (.p (.s a)),.c (.p (.s b))] [] λr h=>r=.c (.p (.b (g a b)))/\h=[]:=by
 intro X vals hh hi gd hr;obtain⟨rfl⟩:vals=[.string ⟨a.toArray⟩,.string ⟨b.toArray⟩]:=by
  cases vals with
  | nil=>exact hr.elim
  | cons v vs=>cases vs with
   | nil=>exact hr.2.elim
   | cons u us=>cases us with
    | cons _ _=>exact hr.2.2.elim
    | nil =>
     have h1:v=.string ⟨a.toArray⟩:=hr.1;have h2:u=.string ⟨b.toArray⟩:=hr.2.1;rw[h1,h2]
 refine .inl ⟨hen _ _,(hC _ _ X.w).mono ?_⟩;rintro e w' ⟨rfl,rfl⟩;exact⟨_,rfl,.c (.p (.b (g a b))),X,rfl,hi,Step.refl hi,rfl,rfl,hh⟩
theorem rX{P:Program}{f:FuncId}{g:List UInt8->Int->Int}{N:Nat}(hen:∀(vals:List Value) (w:World),(callFunc f vals.toArray).run P w=.ok (.enter f vals.toArray) w)
  (hC:∀(a:List UInt8) (c:Int) (w:World),a.length<N->Calls P f #[.string ⟨a.toArray⟩,.int .u8 c] w λe w'=>e=.returned (.int .i64 (g a c))/\w'=w){a:List UInt8}{c:Int}(ha:a.length<N):
  aA P f [.c (.p (.s a)),.c (.p (.i .u8 c))] [] λr h=>r=.c (.p (.i .i64 (g a c)))/\h=[]:=by
 intro X vals hh hi gd hr;obtain⟨rfl⟩:vals=[.string ⟨a.toArray⟩,.int .u8 c]:=by
  cases vals with
  | nil=>exact hr.elim
  | cons v vs=>cases vs with
   | nil=>exact hr.2.elim
   | cons u us=>cases us with
    | cons _ _=>exact hr.2.2.elim
    | nil =>
     have h1:v=.string ⟨a.toArray⟩:=hr.1;have h2:u=.int .u8 c:=hr.2.1;rw[h1,h2]
 refine .inl ⟨hen _ _,(hC _ _ X.w ha).mono ?_⟩;rintro e w' ⟨rfl,rfl⟩;exact⟨_,rfl,.c (.p (.i .i64 (g a c))),X,rfl,hi,Step.refl hi,rfl,rfl,hh⟩
theorem HI{w:World}{S:Nat->Prop}{bl:Nat}:∀(d:List UInt8) (off:Nat),fP w S 1 bl off (bU d)->∀i,i<d.length->w.cell? ⟨bl,off+i,none⟩=some (.int .u8 ((d.map λb=>(b.toNat:Int)).getD i 0))
 | [],_,_,i,hi=>by simp at hi
 | b::d,off,h,0,_=>by
  obtain⟨⟨_,⟨v,hv,hr⟩,_⟩,_⟩:=h;rw[Nat.add_zero,hv,show v=.int .u8 b.toNat from hr];rfl
 | b::d,off,h,i+1,hi=>by
  have:=HI d (off+1) h.2 i (by simpa using hi);rw[show off+(i+1)=off+1+i by omega];simpa using this
theorem AQ{P:Program}{f:FuncId}{g:List UInt8->Int->Int}(hen:∀(vals:List Value) (w:World),(callFunc f vals.toArray).run P w=.ok (.enter f vals.toArray) w)
  (hC:∀(a:Addr) (n c:Nat) (xs:List Int) (cv:Int) (w:World),xs.length=n->(∀i,i<n->w.cell? (a.add i)=some (.int .u8 (xs.getD i 0)))->Calls P f #[.slice (some a) n c,.int .u8 cv] w λe w'=>e=.returned (.int .i64 (g (Lib.bytesOf xs) cv))/\w'=w)
  {d:List UInt8}{c:Int}(hd:d≠[]):aA P f [.c (.p (.sl 1 (bU d))),.c (.p (.i .u8 c))] [] λr h=>r=.c (.p (.i .i64 (g d c)))/\h=[]:=by
 intro X vals hh hi gd hr;obtain⟨v,rfl,hv⟩:∃v,vals=[v,.int .u8 c]/\cZ X.w X.S (.sl 1 (bU d)) v:=by
  cases vals with
  | nil=>exact hr.elim
  | cons v vs=>cases vs with
   | nil=>exact hr.2.elim
   | cons u us=>cases us with
    | cons _ _=>exact hr.2.2.elim
    | nil =>
     have h2:u=.int .u8 c:=hr.2.1;rw[h2];exact⟨v,rfl,hr.1⟩
 simp only[cZ] at hv;obtain⟨a,cap,rfl,_,he|⟨bl,off,rfl,_,hl⟩⟩:=hv
 .cases d with
  | nil=>exact absurd rfl hd
  | cons _ _=>cases he
 have hb:Lib.bytesOf (d.map λb:UInt8=>(b.toNat:Int))=d:=by
  rw[Lib.bytesOf,List.map_map];refine(List.map_congr_left λb _=>?_).trans (List.map_id' d);simp
 refine .inl ⟨hen _ _,(hC ⟨bl,off,none⟩ _ cap (d.map λb:UInt8=>(b.toNat:Int)) c X.w (by simp[bU]) (λi hi=>by
  have h9:=HI d off hl i (by simpa[bU] using hi);simp only[Addr.add];split
  .rename_i h0;rw[h0] at h9 ⊢;exact h9
  .exact h9)).mono ?_⟩
 rintro e w' ⟨rfl,rfl⟩;rw[hb];exact⟨_,rfl,.c (.p (.i .i64 (g d c))),X,rfl,hi,Step.refl hi,rfl,rfl,hh⟩
theorem SQ(w:World)(S:Nat->Prop):∀bs:List ByteArray,bQ w S (encS (bs.map (·.data.toList))).flatten (bs.map Value.string)
 | []=>True.intro
 | b::bs=>⟨rfl,SQ w S bs⟩
theorem zCR(s sep:List UInt8):(Lib.splitB ⟨sep.toArray⟩ 0 (Lib.countB ⟨s.toArray⟩ ⟨sep.toArray⟩) ⟨s.toArray⟩).map (·.data.toList)=Lib.split s sep:=by
 rw[Lib.splitB_data];rfl
theorem PF{P:Program}{f:FuncId}{g1:Nat}{t:TypeId}(hen:∀(vals:List Value) (w:World),(callFunc f vals.toArray).run P w=.ok (.enter f vals.toArray) w)
  (hsh:∀w:World,w.ShapedOpen P->∃m,w.cell? ⟨g1,0,none⟩=some (.int .i64 m))
  (hS:∀(s sep:ByteArray) (m:Int) (w:World),s.size<4294967281->w.cell? ⟨g1,0,none⟩=some (.int .i64 m)->1<=sep.size->Calls P f #[.string s,.string sep] w λe w' =>
   e=.returned (.slice (some ⟨w.heap.size,0,none⟩) (Lib.countB s sep+1) (Lib.countB s sep+1))/\w'=w.alloc (.cells ((Lib.splitB sep 0 (Lib.countB s sep) s).map Value.string).toArray t))
  {a sep:List UInt8}(ha:a.length<4294967281)(hsep:1<=sep.length):
  aA P f [.c (.p (.s a)),.c (.p (.s sep))] [] λr h=>r=.c (.p (.sl 1 (encS (Lib.split a sep))))/\h=[]:=by
 intro X vals hh hi gd hr;obtain⟨rfl⟩:vals=[.string ⟨a.toArray⟩,.string ⟨sep.toArray⟩]:=by
  cases vals with
  | nil=>exact hr.elim
  | cons v vs=>cases vs with
   | nil=>exact hr.2.elim
   | cons u us=>cases us with
    | cons _ _=>exact hr.2.2.elim
    | nil =>
     have h1:v=.string ⟨a.toArray⟩:=hr.1;have h2:u=.string ⟨sep.toArray⟩:=hr.2.1;rw[h1,h2]
 obtain ⟨W0,⟨hW0,_⟩,hk⟩:=gd;obtain⟨m,hm⟩:=hsh W0 hW0;have hlt:g1<W0.heap.size:=by
  rcases Nat.lt_or_ge g1 W0.heap.size with h|h
  .exact h
  .rw[World.cell?] at hm;simp[Array.getElem?_eq_none h] at hm
 have hm2:X.w.cell? ⟨g1,0,none⟩=some (.int .i64 m):=by rw[Kept.cell hk hlt];exact hm
 refine .inl ⟨hen _ _,(hS _ _ m X.w (by simpa[ByteArray.size] using ha) hm2 (by simpa[ByteArray.size] using hsep)).mono ?_⟩;rintro e w' ⟨rfl,rfl⟩;refine⟨_,rfl,?_⟩;have hlen:(Lib.splitB ⟨sep.toArray⟩ 0 (Lib.countB ⟨a.toArray⟩ ⟨sep.toArray⟩) ⟨a.toArray⟩).length=Lib.countB ⟨a.toArray⟩ ⟨sep.toArray⟩+1:=Lib.splitB_all _ (by simpa[ByteArray.size] using hsep) 0 _ _ rfl;have hcl:=Lib.countB_le ⟨sep.toArray⟩ (by simpa[ByteArray.size] using hsep) _ ⟨a.toArray⟩ (Nat.le_refl _);have hsd:=zCR a sep;generalize Lib.splitB ⟨sep.toArray⟩ 0 (Lib.countB ⟨a.toArray⟩ ⟨sep.toArray⟩) ⟨a.toArray⟩=bs at hlen hsd;have hn:Lib.countB ⟨a.toArray⟩ ⟨sep.toArray⟩+1<=4294967281:=by
  have:(ByteArray.mk a.toArray).size=a.length:=by simp[ByteArray.size]
  omega
 generalize Lib.countB ⟨a.toArray⟩ ⟨sep.toArray⟩+1=n at hlen hn;have hgw:=Grew.alloc X.w (.cells (bs.map Value.string).toArray t);have hel:(encS (bs.map (·.data.toList))).length=n:=by rw[encS_len,List.length_map,hlen]
 obtain ⟨k1,k2⟩:=sW (k:=1) (es:=encS (bs.map (·.data.toList))) (vs:=bs.map Value.string) hi hgw (λx hx=>by
  simp only[encS,List.mem_map] at hx;obtain⟨y,_,rfl⟩:=hx;rfl) (SQ X.w X.S bs) (λj v hj=>by simpa using hj) (by rw[hel,List.size_toArray,List.length_map,hlen];omega) (tQ.zero _ _ _)
 have hown:=tC (k:=1) (n:=n) (cap:=n) (es:=encS (bs.map (·.data.toList))) hgw (by omega) (Nat.le_refl _) (by unfold maxLen;omega) (by rw[List.size_toArray,List.length_map,hlen];omega)
 refine zE5 (X:=X.push _ _) k2 k1 hown (.inr (.inl ⟨.c (.p (.sl 1 (encS (Lib.split a sep)))),?_,?_,rfl,?_⟩))
 .simp only[zGU,WU,WK,Ctx.push,hh];simp[<- hsd,SK];exact List.take_of_length_le (by omega)
 .rw[hh];simp
 .rw[hh];simp
theorem BN:∀(s w:List UInt8),(Lib.index s [47] = -1->yW w s=[w++s])/\(∀i:Nat,Lib.index s [47]=i->yW w s=(w++s.take i)::yW [] (s.drop (i+1)))
 | [],w=>⟨λ_=>by simp[yW],λi h=>by simp[Lib.index] at h⟩
 | b::l,w=>by
  rw[Lib.index];by_cases hb:b=47
  .subst hb;have h1:([47]:List UInt8).isPrefixOf (47::l)=true:=by simp[List.isPrefixOf]
   rw[if_pos h1];refine⟨λh=>by omega,λi h=>?_⟩
   have:i=0:=by omega
   subst this;simp[yW]
  .have h1:¬ ([47]:List UInt8).isPrefixOf (b::l)=true:=by simp[List.isPrefixOf,Ne.symm hb]
   have h2:¬ ((b.toNat:Int)==47)=true:=by
    intro h;have h:=eq_of_beq h;exact hb (UInt8.toNat_inj.1 (by have:(47:UInt8).toNat=47:=rfl;omega))
   obtain⟨k1,k2⟩:=BN l (w++[b]);have hge:=Lib.index_ge l [47];rw[if_neg h1,yW,if_neg h2];split
   .rename_i h;have h:=eq_of_beq h;refine⟨λ_=>by rw[k1 h];simp,λi h=>by omega⟩
   .rename_i h;have h:Lib.index l [47]≠-1:=by simpa using h
    refine⟨λh=>by omega,λi hi=>?_⟩
    obtain⟨j,rfl⟩:∃j,i=j+1:=⟨i-1,by omega⟩
    rw[k2 j (by omega)];simp
theorem HX:∀(k:Nat) (s:List UInt8),Lib.count s [47]=k->Lib.splitK [47] 0 k s=qW s
 | 0,s,h=>by
  rw[Lib.splitK];by_cases hm:Lib.index s [47] = -1
  .rw[qW,(BN s []).1 hm];rfl
  .have hge:=Lib.index_ge s [47];obtain⟨i,hi⟩:∃i:Nat,Lib.index s [47]=i:=⟨(Lib.index s [47]).toNat,by omega⟩
   have:=Lib.count_hit (sub:=[47]) (by simp) hi;omega
 | k+1,s,h=>by
  by_cases hm:Lib.index s [47] = -1
  .rw[Lib.count_miss hm] at h;omega
  .have hge:=Lib.index_ge s [47];obtain⟨i,hi⟩:∃i:Nat,Lib.index s [47]=i:=⟨(Lib.index s [47]).toNat,by omega⟩
   have hc:=Lib.count_hit (sub:=[47]) (by simp) hi;have hne:¬ (Lib.index s [47] == -1)=true:=by simpa using hm
   have hit:(Lib.index s [47]).toNat=i:=by omega
   rw[Lib.splitK,if_neg hne,hit,qW,(BN s []).2 i hi];have:=HX k (s.drop (i+1)) (by simp only[List.length_singleton] at hc;omega);simp only[List.length_singleton,Nat.add_zero,List.nil_append];rw[this];rfl
theorem zG7(s:List UInt8):Lib.split s [47]=qW s:=HX _ s rfl
theorem indexByte_none(c:UInt8):∀s:List UInt8,decide (Lib.indexByte s c<0)=s.all λb=>!(b==c)
 | []=>rfl
 | b::s=>by
  have ih:=indexByte_none c s;have hge:=Lib.indexByte_ge s c;rw[Lib.indexByte,List.all_cons];cases hb:b==c
  .simp only[Bool.false_eq_true,if_false,Bool.not_false,Bool.true_and,<- ih];split
   .rename_i h;rw[eq_of_beq h]
   .rename_i h;have h:Lib.indexByte s c≠-1:=by simpa using h
    rw[decide_eq_false (by omega),decide_eq_false (by omega)]
  .rfl
theorem GQ:∀s:List UInt8,s.all pY=((s.all λb=>!(b==0)) && s.all λb=>!(b==47))
 | []=>rfl
 | b::s=>by
  have e0:((b.toNat:Int)==0)=(b==0):=by
   rw[Bool.eq_iff_iff];simp only[beq_iff_eq];exact⟨λh=>UInt8.toNat_inj.1 (by have:(0:UInt8).toNat=0:=rfl;omega),λh=>by rw[h];rfl⟩
  have e1:((b.toNat:Int)==47)=(b==47):=by
   rw[Bool.eq_iff_iff];simp only[beq_iff_eq];exact⟨λh=>UInt8.toNat_inj.1 (by have:(47:UInt8).toNat=47:=rfl;omega),λh=>by rw[h];rfl⟩
  rw[List.all_cons,List.all_cons,List.all_cons,GQ s,pY,e0,e1];cases b==0<;>cases b==47<;>cases (s.all λb=>!(b==0))<;>rfl
end Go.Dm
end
section
namespace Go.Dm
open Go Go.RowKit Go.ChangeShapes Go.WideShapes
theorem QV{H:Type}{enc:TypeId × Value->H}{C:Checked}{os:Os}{f:FuncId}{fn:Func}{s:ChangeSpec}{conds:List PathCond}{apart:Bool}(laid:List (String × DataW Unit))(args:Array Value)(fuel:Nat)
  (h1:(World.holding C.prog os ⟨#[],#[],[]⟩).layFits C.prog laid []=true)
  (h2:(World.holding C.prog os ⟨#[],#[],[]⟩).layIfaces C.prog laid (World.laidAll C.prog os laid)=true)
  (h3:(laid.all λx=>x.2.handleName?.isNone)=true)
  (h4:((World.laidAll C.prog os laid).forCall (λ_ _=>0) ⟨#[],args,[]⟩).variablesZipB C.prog=true)
  (h5:(((World.laidAll C.prog os laid).forCall (λ_ _=>0) ⟨#[],args,[]⟩).heap.toList.drop C.prog.globals.size).take ((begin C.prog (λ_ _=>0) default).world.heap.size-C.prog.globals.size) =
   (begin C.prog (λ_ _=>0) default).world.heap.toList.drop C.prog.globals.size)
  (hok:Input.okWideB C.prog ((World.laidAll C.prog os laid).forCall (λ_ _=>0) ⟨#[],args,[]⟩) f ⟨#[],args,[]⟩=true)
  (hpre:s.preB enc C.prog fn conds apart ((World.laidAll C.prog os laid).forCall (λ_ _=>0) ⟨#[],args,[]⟩).memory args fuel=true)
  (hsz:s.sizedB enc C.prog fn apart ((World.laidAll C.prog os laid).forCall (λ_ _=>0) ⟨#[],args,[]⟩).memory args fuel=true):
  ∃ (w:World) (tape:Tape) (i:Input),w.os=os/\(w.forCall tape i).Shaped C.prog/\i.vars=[]/\Input.okWide C.prog (w.forCall tape i) .any w.heap.size f i /\
   ((s.pre enc C.prog fn conds apart (w.forCall tape i).memory i.args/\laidMetH C.prog laid (w.forCall tape i).memory)/\sizedMet enc C.prog fn (OpenSpec.ofChange s) apart (w.forCall tape i).memory i.args)/\({}:Assume).holds C.prog (lone (Frame.enter C.prog f i.args .normal) [] (w.forCall tape i)) :=
 ChangeSpec.witness_shaped (X:=λw _=>laidMetH C.prog laid w) false (World.laidAll C.prog os laid) args fuel (World.laidAll_os _ _ _) (World.shaped_of_ZipB h4 h5) hok hpre hsz
  (by rw[Go.MakeChecks.laidMetH_plain _ _ _ h3];exact laidMet_laidAll args h1 h2)
end Go.Dm
end
section
namespace Go.Dm
open Go Go.RowKit Go.ChangeShapes Go.WideShapes
theorem QP{H:Type}{enc:TypeId × Value->H}{a:Assume}{C:Checked}{os:Os}{f:FuncId}{fn:Func}{s:ChangeSpec}{conds:List PathCond}{apart fresh handsOn again:Bool}{X:World->Array Value->Prop}
  (own:ownKnob C.prog.godebug=none)(started:os.Started)(noInit:C.prog.inits.idxOf? f=none)(hfn:C.prog.funcs[f]?=some fn)
  (witness:∃(w:World) (tape:Tape) (i:Input),w.os=os/\(w.forCall tape i).Shaped C.prog/\i.vars=[]/\Input.okWide C.prog (w.forCall tape i) .any w.heap.size f i /\
   ((s.pre enc C.prog fn conds apart (w.forCall tape i).memory i.args/\X (w.forCall tape i).memory i.args)/\sizedMet enc C.prog fn (OpenSpec.ofChange s) apart (w.forCall tape i).memory i.args)/\a.holds C.prog (lone (Frame.enter C.prog f i.args .normal) [] (w.forCall tape i)))
  (contract:∀(W:World) (base:Nat) (args:Array Value) (ds gs:List (DataW H)) (before:List MemPlace),
   (∀(j:Nat) t v,fn.params[j]?=some t->args[j]?=some v->Value.okWide C.prog W .any base t v) ->
   DataW.Whole enc C.prog fn.params.toList s.vars apart W args.toList ds gs before ->
   W.ShapedOpen C.prog ->
   (DataW.weightsEach C.prog (fn.params.toList++s.plain.varTypes C.prog) (ds++gs)).all (·<=reachBytes)=true ->
   X W.memory args ->
   Calls C.prog f args W λe W'=>∃v,e=.returned v/\s.post enc C.prog fn apart fresh handsOn again W args v W'):
  ReturnsInHanded a C os f .any (λw args=>(s.pre enc C.prog fn conds apart w args/\X w args)/\sizedMet enc C.prog fn (OpenSpec.ofChange s) apart w args) (s.post enc C.prog fn apart fresh handsOn again):=by
 refine returnsInHanded_of_calls own started noInit witness ?_;intro w tape i _ hsh _ hok hpre _;obtain⟨_,_,_,fn',hfn',_,_,_,_,hval⟩:=hok;have e:fn'=fn:=Option.some.inj (hfn'.symm.trans hfn);subst e;obtain⟨⟨⟨ds,gs,before,hw,_⟩,hx⟩,hz⟩:=hpre;have hw':=DataW.Whole.of_heap (w':=w.forCall tape i) (by rfl) hw;refine(contract (w.forCall tape i) w.heap.size i.args ds gs before hval hw' hsh (hz.weights hw) hx).mono λe W' ⟨v,he,hp⟩=>?_;subst he;exact ChangeSpec.post_blind hp
end Go.Dm
end
end
