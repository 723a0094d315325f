/- Part 12 of the proof of roomAsks_card, set without needless blanks. No condition. -/
import Derived.Test.YtlbfnbldeefgmaaGreatDoorA10
import Derived.Shelf.SlSortCmp.InsertionK
import Derived.Sort.LotA
set_option linter.all false
section
section
namespace Go.Dm
open Go
theorem HI (z:Int):0≤IntKind.u8.wrap z∧IntKind.u8.wrap z≤255:=⟨of_eq_true (DX z),of_eq_true (DW z)⟩
theorem zB1 (B:List UInt8) (z:Int):bO B++[[.i .u8 (IntKind.u8.wrap z)]]=bO (B++[UInt8.ofNat (IntKind.u8.wrap z).toNat]):=by
 obtain ⟨h1,h2⟩:=HI z;have:((UInt8.ofNat (IntKind.u8.wrap z).toNat).toNat:Int)=IntKind.u8.wrap z:=by
  have:(UInt8.ofNat (IntKind.u8.wrap z).toNat).toNat=(IntKind.u8.wrap z).toNat:=by
   show _ % 256=_;exact Nat.mod_eq_of_lt (by omega)
  rw [this];omega
 simp only [bO,List.map_append,List.map_cons,List.map_nil,this]
theorem zB0 (z:Int):[[PV.i .u8 (IntKind.u8.wrap z)]]=bO [UInt8.ofNat (IntKind.u8.wrap z).toNat]:=by
 have:=zB1 [] z;simpa [bO] using this
def zM5 (b:List UInt8):Nat:=b.foldl (fun v c=>v*256+c.toNat) 0
structure Rd where
 b:List UInt8
 l:Bool
def Rd.raw (r:Rd) (n:Nat):List UInt8 × Rd:=if r.l || decide (r.b.length<n) then ([],⟨[],true⟩) else (r.b.take n,⟨r.b.drop n,false⟩)
def Rd.num (r:Rd) (n:Nat):Nat × Rd:=(zM5 (r.raw n).1,(r.raw n).2)
def Rd.text (r:Rd):List UInt8 × Rd:=(r.num 2).2.raw (r.num 2).1
def Rd.node (r:Rd):Nd × Rd :=
 let k:=r.num 1
 let m:=k.2.num 2
 let t:=m.2.num 8
 let d:=t.2.text
 (⟨k.1,m.1,t.1,d.1⟩,d.2)
def Rd.items:Nat→Rd→List It × Rd
 | 0,r=>([],r)
 | n+1,r =>
  if r.l then ([],r) else
   let p:=r.text
   let x:=p.2.node
   let y:=Rd.items n x.2
   (⟨p.1,x.1⟩::y.1,y.2)
end Go.Dm
end
section
namespace Go.Dm
open Go
def pB (pre:List It) (p:List UInt8):Bool:=match pre.getLast? with
 | some y=>bL y.p p
 | none=>true
def lA (pre:List It) (x:It):Bool:=!(x.p == []) && (bT x.p && (pB pre x.p && (aS x.n && aV pre (aR x.p))))
def eK:List It→List It→Bool
 | _,[]=>true
 | pre,x::r=>lA pre x && eK (pre++[x]) r
def jD (t:List It):Bool:=eK [] t && decide ((t.length:Int)≤120)
theorem getLast_take {t:List It} {k:Nat} (hk:0<k) (hl:k≤t.length):(t.take k).getLast? = t[k-1]? := by
 rw [List.getLast?_eq_getElem?,List.length_take,Nat.min_eq_left hl,List.getElem?_take,if_pos (by omega)]
theorem XB {t:List It} {x:It} (h:Srt t) (ha:pB t x.p=true):Srt (t++[x]):=by
 refine List.pairwise_append.2 ⟨h,by simp,fun y hy z hz=>?_⟩
 have:z=x:=by simpa using hz
 subst this;unfold pB at ha;cases hl:t.getLast? with
 | none =>
  have:t=[]:=by simpa using hl
  subst this;cases hy
 | some w =>
  rw [hl] at ha;simp only at ha;obtain ⟨s,rfl⟩:=List.getLast?_eq_some_iff.1 hl;rcases List.mem_append.1 hy with hy|hy
  ·have:=(List.pairwise_append.1 h).2.2 y hy w (by simp);exact cC this ha
  ·have:y=w:=by simpa using hy
   rw [this];exact ha
theorem CX:∀ {r pre:List It},Srt pre→(∀ x∈pre,OkI x)→(∀ x∈r,x.n.t<18446744073709551616)→(∀ x∈pre,aV pre (aR x.p)=true)→eK pre r=true→Srt (pre++r)∧(∀ x∈pre++r,OkI x)∧∀ x∈pre++r,aV (pre++r) (aR x.p)=true
 | [],pre,hs,ho,_,hp,_=>by rw [List.append_nil];exact ⟨hs,ho,hp⟩
 | x::r,pre,hs,ho,ht,hp,h=>by
  rw [eK,Bool.and_eq_true] at h;obtain ⟨h1,h2⟩:=h;simp only [lA,Bool.and_eq_true,Bool.not_eq_true'] at h1;obtain ⟨a1,a2,a3,a4,a5⟩:=h1;have hs2:Srt (pre++[x]):=XB hs a3;have up:∀ p,aV pre p=true→aV (pre++[x]) p=true:=by
   intro p hd;by_cases hp0:p=[]
   ·subst hp0;rfl
   ·obtain ⟨m,k1,k2⟩:=cN hp0 hd;obtain ⟨y,hy,hyp,hyn⟩:=bZ k1;have:=cI hs2 (List.mem_append_left [x] hy);rw [hyp] at this;exact eU this (by rw [hyn];exact k2)
  have:=CX (r:=r) (pre:=pre++[x]) hs2 (fun y hy=>by
   rcases List.mem_append.1 hy with hy|hy
   ·exact ho y hy
   ·have:y=x:=by simpa using hy
    subst this;exact ⟨by simpa using a1,a2,a4,ht y List.mem_cons_self⟩) (fun y hy=>ht y (List.mem_cons_of_mem _ hy)) (fun y hy=>by
   rcases List.mem_append.1 hy with hy|hy
   ·exact up _ (hp y hy)
   ·have:y=x:=by simpa using hy
    subst this;exact up _ a5) h2
  rw [List.append_assoc] at this;exact this
theorem MT {t:List It} (ht:∀ x∈t,x.n.t<18446744073709551616) (h:jD t=true):OkT t:=by
 unfold jD at h;rw [Bool.and_eq_true,decide_eq_true_eq] at h;obtain ⟨h1,h2⟩:=h;have:=CX (r:=t) (pre:=[]) List.Pairwise.nil (fun x hx=>by cases hx) ht (fun x hx=>by cases hx) h1
 rw [List.nil_append] at this;exact ⟨⟨this.1,this.2.1,by omega⟩,this.2.2⟩
theorem zAp {t:List It} (h:OkT t):∀ k,k≤t.length→eK (t.take k) (t.drop k)=true:=by
 have key:∀ n k,t.length-k≤n→k≤t.length→eK (t.take k) (t.drop k)=true:=by
  intro n
  induction n with
  | zero =>
   intro k h1 h2;rw [List.drop_of_length_le (by omega)];rfl
  | succ n ih =>
   intro k h1 h2;by_cases hlt:k<t.length
   ·have hx:t[k]? = some t[k]:=List.getElem?_eq_getElem hlt;rw [List.drop_eq_getElem_cons hlt,eK];have hn:=ih (k+1) (by omega) (by omega);rw [List.take_add_one,hx] at hn;obtain ⟨i1,i2,i3,_⟩:=h.its _ (List.getElem_mem hlt);have hd:=CB h hx;have ha:pB (t.take k) t[k].p=true:=by
     unfold pB;by_cases h0:0<k
     ·rw [getLast_take h0 (by omega),List.getElem?_eq_getElem (by omega)];exact List.pairwise_iff_getElem.1 h.srt (k-1) k (by omega) hlt (by omega)
     ·have:k=0:=by omega
      subst this;rfl
    have i1':(t[k].p == [])=false:=by simpa using i1
    rw [lA,i1',i2,ha,i3,hd];exact hn
   ·rw [List.drop_of_length_le (by omega)];rfl
 exact fun k hk=>key _ k (Nat.le_refl _) hk
theorem MS {t:List It} (h:OkT t):jD t=true:=by
 have:=zAp h 0 (Nat.zero_le _);have hl:=h.len;simp only [List.take_zero,List.drop_zero] at this;rw [jD,this,Bool.true_and];exact decide_eq_true (by omega)
end Go.Dm
end
section
namespace Go.Dm
open Go
def Rd.take (r:Rd):Nd × Bool:=if r.node.2.l || !aS r.node.1 then (⟨0,0,0,[]⟩,false) else (r.node.1,true)
end Go.Dm
end
section
namespace Go.Dm
open Go
end Go.Dm
end
section
namespace Go.Dm
open Go
end Go.Dm
end
section
namespace Go.Dm
open Go
def gY (l:List Ch):Bool:=eA none l
end Go.Dm
end
end
section
namespace Go.Dm
open Go
def DC (x y:It):Bool:=x.p == y.p && mI x.n y.n
def fT:List It→List It→Bool
 | [],[]=>true
 | x::a,y::b=>DC x y && fT a b
 | _,_=>false
theorem SX {a b:List It} {k:Nat} {x y:It} (ha:a[k]? = some x) (hb:b[k]? = some y):fT (a.drop k) (b.drop k)=(DC x y && fT (a.drop (k+1)) (b.drop (k+1))):=by
 obtain ⟨h1,rfl⟩:=List.getElem?_eq_some_iff.1 ha;obtain ⟨h2,rfl⟩:=List.getElem?_eq_some_iff.1 hb;rw [List.drop_eq_getElem_cons h1,List.drop_eq_getElem_cons h2,fT]
theorem DD:∀ {a b:List It},a.length≠b.length→fT a b=false
 | [],[],h=>absurd rfl h
 | [],_::_,_=>rfl
 | _::_,[],_=>rfl
 | x::a,y::b,h=>by
  rw [fT,DD (a:=a) (b:=b) fun e=>h (by simp [e]),Bool.and_false]
theorem zQ:∀ {a:List It},(∀ x∈a,x.n.wf)→fT a a=true
 | [],_=>rfl
 | x::a,h=>by
  rw [fT,zQ fun y hy=>h y (List.mem_cons_of_mem _ hy),DC,pS (h x List.mem_cons_self)];simp
def CO (n:Nd):Prop:=n.wf∧cY n.t=n.t
theorem jE {n:Nd} (h:aS n=true) (hw:n.wf):CO n:=by
 refine ⟨hw,?_⟩;unfold aS at h;simp only [Bool.and_eq_true,Bool.not_eq_true',Bool.or_eq_false_iff,decide_eq_false_iff_not] at h;obtain ⟨⟨⟨_,_⟩,h2⟩,_⟩:=h;rw [Bool.not_eq_false',ME hw,beq_iff_eq] at h2;exact h2
theorem tQ {x y:Nd} (hx:CO x) (hy:CO y) (h:mI x y=true):x=y:=by
 rw [rP hx.1 hy.1] at h;unfold gE at h;simp only [Bool.and_eq_true,beq_iff_eq] at h;obtain ⟨⟨⟨h1,h2⟩,h3⟩,h4⟩:=h;rw [hx.2,hy.2] at h4;cases x;cases y;simp only at h1 h2 h3 h4;subst h1 h2 h3 h4;rfl
theorem NH:∀ {a b:List It},(∀ x∈a,CO x.n)→(∀ x∈b,CO x.n)→fT a b=true→a=b
 | [],[],_,_,_=>rfl
 | [],_::_,_,_,h=>by cases h
 | _::_,[],_,_,h=>by cases h
 | x::a,y::b,ha,hb,h=>by
  rw [fT,Bool.and_eq_true,DC,Bool.and_eq_true,beq_iff_eq] at h;obtain ⟨⟨h1,h2⟩,h3⟩:=h;have e1:=tQ (ha x List.mem_cons_self) (hb y List.mem_cons_self) h2;have e2:=NH (fun z hz=>ha z (List.mem_cons_of_mem _ hz)) (fun z hz=>hb z (List.mem_cons_of_mem _ hz)) h3;cases x;cases y;simp only at h1 e1;subst h1 e1 e2;rfl
theorem OkT.plain {t:List It} (h:OkT t):∀ x∈t,CO x.n:=fun x hx=>by
 obtain ⟨_,_,h3,h4⟩:=h.its x hx;exact jE h3 h4
theorem EP {a b:List It} (ha:OkT a) (hb:OkT b):gY (gG a b)=true:=QJ ha hb
def qM (l:List Ch):Nat→Option (List UInt8)
 | 0=>none
 | k+1=>(l[k]?).map Ch.p
theorem wN {l:List Ch} {k:Nat} {x:Ch} (h:l[k]? = some x):qM l (k+1)=some x.p:=by rw [qM,h];rfl
theorem zIW (a b:List UInt8):decide (HL a b≤0) = !bL b a:=by
 unfold HL;cases h:bL b a
 ·cases h2:bL a b
  ·have e:=dV h2 h;subst e;simp
  ·simp
 ·rw [eH h];cases he:(a == b)
  ·simp
  ·rw [eq_of_beq he,cM] at h;cases h
end Go.Dm
end
section
namespace Go.Dm
open Go Go.Sort Go.Proofs
structure El (k:Nat) (ok:List PV→List Value→Prop) where
 v:List Value
 p:List PV
 hv:v.length=k
 hp:p.length=k
 h1:∀ x∈v,x.oneCell'=true
 hk:ok p v
theorem zLn {w:World} {S:Nat→Prop} {k bl off:Nat} {es:List (List PV)} {ok:List PV→List Value→Prop} (hl:eP w S k bl off es) (hok:∀ e∈es,∀ v,bJ w S e v→ok e v):
  ∃ d:List (El k ok),d.map (·.p)=es∧(∀ x∈d,bJ w S x.p x.v)∧∀ (i:Nat) (x:El k ok),d[i]? = some x→∀ (j:Nat) (v:Value),x.v[j]? = some v→w.cell? ⟨bl,off+i*k+j,none⟩=some v:=by
 have key:∀ i,i<es.length→∃ x:El k ok,es[i]? = some x.p∧bJ w S x.p x.v∧∀ (j:Nat) (v:Value),x.v[j]? = some v→w.cell? ⟨bl,off+i*k+j,none⟩=some v:=by
  intro i hi;obtain ⟨h1,h2⟩:=hl.at_ (List.getElem?_eq_getElem hi);obtain ⟨vs,h3,h4⟩:=h2.vals;exact ⟨⟨vs,es[i],by rw [← h3.length];exact h1,h1,h3.oneCell,hok _ (List.getElem_mem hi) _ h3⟩,List.getElem?_eq_getElem hi,h3,h4⟩
 obtain ⟨d,h1,h2⟩:=pK es.length key;refine ⟨d,List.ext_getElem? fun i=>?_,fun x hx=>?_,fun i x hx=>(h2 i x hx).2.2⟩
 ·rw [List.getElem?_map];rcases Nat.lt_or_ge i d.length with hi|hi
  ·rw [List.getElem?_eq_getElem hi];exact ((h2 i _ (List.getElem?_eq_getElem hi)).1).symm
  ·rw [List.getElem?_eq_none hi,List.getElem?_eq_none (by omega)];rfl
 ·obtain ⟨i,hi⟩:=List.mem_iff_getElem?.1 hx;exact (h2 i x hi).2.1
theorem ZG {w:World} {k bl off:Nat} {ok:List PV→List Value→Prop} [Inhabited (El k ok)] {d:List (El k ok)} {arr:Array Value} {el:TypeId} {fz:Nat × Nat} (hb:w.heap[bl]? = some (.cells arr el fz)) (hf:TM fz off arr.size) (hs:off+d.length*k≤arr.size)
  (hc:∀ (i:Nat) (x:El k ok),d[i]? = some x→∀ (j:Nat) (v:Value),x.v[j]? = some v→w.cell? ⟨bl,off+i*k+j,none⟩=some v):HoldsK El.v k w bl off d.toArray:=by
 intro t ht;have ht':t<d.length*k:=by simpa using ht
 have hk:0<k:=by rcases Nat.eq_zero_or_pos k with h|h;subst h;simp at ht';exact h
 have hi:t / k<d.length:=(Nat.div_lt_iff_lt_mul hk).2 ht';refine ⟨?_,?_⟩
 ·rw [get_flatK _ _ _ t (by simpa using ht')];have hx:d[t / k]? = some d[t / k]:=List.getElem?_eq_getElem hi;have hm:t % k<(d[t / k]).v.length:=by rw [(d[t / k]).hv];exact Nat.mod_lt _ hk
  have:=hc (t / k) _ hx (t % k) _ (List.getElem?_eq_getElem hm);rw [Nat.add_assoc,Nat.mul_comm,Nat.div_add_mod] at this;rw [this,getElem!_pos d.toArray (t / k) (by simpa using hi)];simp only [List.getElem_toArray,id];rw [getElem!_pos _ (t % k) hm]
 ·have:=hf.at_ (off+t) (by omega) (by omega);simp only [World.frozen?,hb];simpa using this
theorem AB {α:Type} [Inhabited α] {enc:α→List Value} {k:Nat} {w:World} {n bl off:Nat} {d:Array α} {arr:Array Value} {el:TypeId} {fz:Nat × Nat} (hb:w.heap[bl]? = some (.cells arr el fz)):Touched w (putRowK enc k (Sort.ahead w n) bl off d) bl where
 os:=rfl
 tape:=rfl
 output:=⟨rfl,Nat.le_add_right _ _⟩
 size:=by simp [putRowK]
 other:=fun b hne=>by simp [putRowK,putRow,mapBlock,Array.getElem?_modify,Ne.symm hne]
 here:=.inl ⟨arr,el,fz,putCells id off (flatK enc k d) arr,el,fz,hb,by simp [putRowK,putRow,mapBlock,Array.getElem?_modify,hb,onCells],by simp [putCells]⟩
theorem SC {w:World} {S:Nat→Prop} {k bl off:Nat} {ok:List PV→List Value→Prop} [Inhabited (El k ok)] {d:List (El k ok)} (hk:0<k) (hH:HoldsK El.v k w bl off d.toArray) (hr:∀ x∈d,bJ w S x.p x.v):eP w S k bl off (d.map (·.p)) :=
 eP.mk fun j e hj=>by
  rw [List.getElem?_map] at hj;obtain ⟨x,hx,rfl⟩:=Option.map_eq_some_iff.1 hj;refine ⟨x.hp,fV.mk fun c y hy=>?_⟩;obtain ⟨v,hv,hrv⟩:=(hr x (List.mem_of_getElem? hx)).at_ hy;refine ⟨v,?_,hrv⟩;have hc:c<k:=by have:=aM hy;rw [x.hp] at this;exact this
  have hjl:j<d.length:=aM hx;have hb:j*k+c<d.length*k:=by
   have:=Nat.mul_le_mul_right k (show j+1≤d.length from hjl)
   rw [Nat.add_mul,Nat.one_mul] at this;omega
  have h:=(hH (j*k+c) (by simpa using hb)).1;rw [get_flatK _ _ _ _ (by simpa using hb),Nat.mul_comm j k,Nat.mul_add_div hk,Nat.div_eq_of_lt hc,Nat.add_zero,Nat.mul_add_mod,Nat.mod_eq_of_lt hc] at h;rw [getElem!_pos d.toArray j (by simpa using hjl)] at h;have hxe:d[j]=x:=by rw [List.getElem?_eq_getElem hjl] at hx;exact Option.some.inj hx
  have hcv:c<x.v.length:=by rw [x.hv];exact hc
  simp only [List.getElem_toArray,id,hxe] at h;rw [getElem!_pos _ c hcv] at h;rw [show off+j*k+c=off+(k*j+c) by rw [Nat.mul_comm];omega,h]
  rw [List.getElem?_eq_getElem hcv] at hv;exact hv
def WD (lt:List PV→List PV→Bool) (x y:List PV):Bool:=!lt y x
theorem TA {lt:List PV→List PV→Bool} (hS:SWO lt) {es es':List (List PV)} (hT:∀ x∈es,∀ y∈es,lt x y=false→lt y x=false→x=y) (hp:es'.Perm es) (hs:es'.Pairwise fun x y=>lt y x=false):es'=es.mergeSort (WD lt):=by
 refine List.Perm.eq_of_pairwise (le:=fun x y=>(WD lt x y)=true) ?_ ?_ ?_ (hp.trans (List.mergeSort_perm _ _).symm)
 ·intro a b ha hb h1 h2;simp only [WD,Bool.not_eq_true'] at h1 h2;exact hT a (hp.mem_iff.1 ha) b (List.mem_mergeSort.1 hb) h2 h1
 ·exact hs.imp fun {a b} h=>by simpa [WD] using h
 ·refine List.pairwise_mergeSort ?_ ?_ _
  ·intro a b c h1 h2;simp only [WD,Bool.not_eq_true'] at h1 h2 ⊢;exact hS.ntrans c b a h2 h1
  ·intro a b;simp only [WD];cases h:lt b a with
   | false=>simp
   | true=>simp [hS.asymmA h]
theorem zD0 {α:Type} [Inhabited α] {d d':Array α} (h:PermIn 0 d.size d d'):d'.toList.Perm d.toList:=by
 obtain ⟨hsz,_,hperm⟩:=h;have e1:d'.extract 0 d.size=d':=by rw [← hsz];exact Array.extract_size
 rw [e1,Array.extract_size] at hperm;exact hperm
theorem TB {α:Type} [Inhabited α] {lt:α→α→Bool} {d:Array α} {n:Nat} (hn:n=d.size) (h:SortedIn lt 0 n d):d.toList.Pairwise fun x y=>lt y x=false:=by
 subst hn;rw [List.pairwise_iff_getElem];intro i j hi hj hij;have hi':i<d.size:=by simpa using hi
 have hj':j<d.size:=by simpa using hj
 have:=h i j (Nat.zero_le _) hij hj';rw [getElem!_pos d j hj',getElem!_pos d i hi'] at this;simpa using this
theorem TJ {a b:World} (h1:b.os=a.os) (h2:b.tape=a.tape) (h3:qG a b) (hs:a.heap.size≤b.heap.size) (hf:∀ i,i<a.heap.size→b.heap[i]? = a.heap[i]?):∃ q os',b=grow (a.drewN q) os':=by
 refine ⟨b.drawn-a.drawn,b.heap.extract a.heap.size b.heap.size,?_⟩;obtain ⟨h3,h4⟩:=h3;have e:b.heap=a.heap++b.heap.extract a.heap.size b.heap.size:=by
  refine Array.ext_getElem? fun i=>?_;rw [Array.getElem?_append];split
  ·rename_i hi;exact hf i hi
  ·rename_i hi;rw [Array.getElem?_extract];split
   ·congr 1;omega
   ·rename_i hi2;exact Array.getElem?_eq_none (by omega)
 have e2:a.drawn+(b.drawn-a.drawn)=b.drawn:=by omega
 cases a;cases b;simp only [grow,World.drewN] at *;subst h1 h2 h3;simp only [World.mk.injEq,true_and,and_true];exact ⟨e,e2.symm⟩
theorem GR {X:Ctx}:∀ {ps:List PV} {vs:List Value},bJ X.w X.S ps vs→bB X (ps.map CV.p) vs
 | [],[],_=>trivial
 | _::_,_::_,h=>⟨h.1,GR h.2⟩
 | [],_::_,h=>h.elim
 | _::_,[],h=>h.elim
theorem zIX {P:Program} {g:FuncId} {cf:List PV→List PV→Int} {X X1:Ctx} {a b:List PV} {va vb:List Value} (eg:∀ args w,(callFunc g args).run P w=.ok (.enter g args) w) (hi:HInv X1) (gd:Gnd P X) (hst:Step X X1)
  (hc:aA P g [.agg (a.map CV.p),.agg (b.map CV.p)] [] fun d h=>d=.c (.p (.i .i64 (cf a b)))∧h=[]) (ha:bJ X.w X.S a va) (hb:bJ X.w X.S b vb):
  Calls P g #[.agg va.toArray,.agg vb.toArray] X1.w fun e w'=>e=.returned (.int .i64 (cf a b))∧∃ q os',w'=grow (X1.w.drewN q) os':=by
 have key:∀ v w',Ret X1.bare (fun d h=>d=.c (.p (.i .i64 (cf a b)))∧h=[]) v w'→v=.int .i64 (cf a b)∧∃ q os',w'=grow (X1.w.drewN q) os':=by
  rintro v w' ⟨d,Z,rfl,_,h3,h4,rfl,_⟩;exact ⟨h4,TJ h3.os h3.tape h3.output h3.size fun i hi=>h3.frame i hi fun id db g h=>by simp [Ctx.bare] at h⟩
 rcases hc X1.bare [.agg va.toArray,.agg vb.toArray] rfl hi.bare (show Gnd P X1 from gd.step hst) ⟨⟨va,rfl,GR (ha.kept hst.kept)⟩,⟨vb,rfl,GR (hb.kept hst.kept)⟩,trivial⟩ with ⟨_,h2⟩|⟨v,w',h1,_⟩
 ·exact h2.mono fun e w' ⟨v,he,hv⟩=>by
   obtain ⟨h5,h6⟩:=key v w' hv;exact ⟨by rw [he,h5],h6⟩
 ·have:=eg #[.agg va.toArray,.agg vb.toArray] X1.w;have h1':(callFunc g #[.agg va.toArray,.agg vb.toArray]).run P X1.w=.ok (.value v) w':=h1;rw [this] at h1';cases h1'
theorem mX {P:Program} {f g:FuncId} (k:Nat) (hk0:0<k) (cf:List PV→List PV→Int) (hSW:SWO (ltOf cf))
  (hen:∀ (vals:List Value) (w:World),(callFunc f vals.toArray).run P w=.ok (.enter f vals.toArray) w)
  (eg:∀ args w,(callFunc g args).run P w=.ok (.enter g args) w)
  (hS:∀ {α:Type} [Inhabited α] (enc:α→List Value) (_:∀ x,(enc x).length=k) (_:∀ x,∀ v∈enc x,v.oneCell'=true) (c:α→α→Int) (_:SWO (ltOf c)) (blk off cap:Nat) (d:Array α) (w:World),
   CmpLays P g #[] enc k c blk off d.size w→HoldsK enc k w blk off d→blk<w.heap.size→d.size<4611686018427387904 →
   Calls P f #[.slice (some ⟨blk,off,none⟩) d.size cap,.func (.func g) #[] #[]] w fun e w'=>e=.returned (.tuple #[])∧∃ (d':Array α) (n:Nat) (os:Array Obj),PermIn 0 d.size d d'∧SortedIn (ltOf c) 0 d.size d'∧w'=sortWorldK enc k w blk off n d' os)
  (hN:∀ (p:Option Addr) (cap:Nat) (fv:Value) (w:World),Calls P f #[.slice p 0 cap,fv] w fun e w'=>e=.returned (.tuple #[])∧w'=w)
  {h:aC} {i0:Nat} {es:List (List PV)} (hcl:∀ x∈es,∀ y∈es,aA P g [.agg (x.map CV.p),.agg (y.map CV.p)] [] fun d h=>d=.c (.p (.i .i64 (cf x y)))∧h=[])
  (hT:∀ x∈es,∀ y∈es,ltOf cf x y=false→ltOf cf y x=false→x=y)
  (hid:h[i0]? = some (.arr k es false)) (hsz:es.length<4611686018427387904):
  aA P f [.c (.own i0 0 es.length),.c (.clo g [])] h fun d h'=>d=.tup []∧h'=h.set i0 (.arr k (es.mergeSort (WD (ltOf cf))) false):=by
 intro X vals hh hi gd hr;subst hh;obtain ⟨v,rfl,hv⟩:∃ v,vals=[v,.func (.func g) #[] #[]]∧bA X (.c (.own i0 0 es.length)) v:=by
  cases vals with
  | nil=>exact hr.elim
  | cons v vs=>cases vs with
   | nil=>exact hr.2.elim
   | cons u us=>cases us with
    | cons _ _=>exact hr.2.2.elim
    | nil =>
     obtain ⟨cs,h2,h3⟩:=hr.2.1;cases cs with
     | nil=>exact ⟨v,by rw [h2],hr.1⟩
     | cons _ _=>exact h3.elim
 refine .inl ⟨hen _ _,?_⟩;obtain ⟨h1,h2,h3⟩:=hv;obtain ⟨h4,h5⟩:=h3 _ _ _ hid;have hb:=hi.blk i0 _ hid;have e0:es=[]→X.h.set i0 (.arr k (es.mergeSort (WD (ltOf cf))) false)=X.h:=by
  rintro rfl;rw [List.mergeSort_nil];exact (List.getElem?_eq_some_iff.1 hid).elim fun hlt he=>by rw [← he];exact List.set_getElem_self hlt
 have fin0:es=[]→∀ (p:Option Addr) (cap:Nat),v=.slice p 0 cap→Calls P f [v,.func (.func g) #[] #[]].toArray X.w fun e w'=>∃ v,e=.returned v∧Ret X (fun d h'=>d=.tup []∧h'=X.h.set i0 (.arr k (es.mergeSort (WD (ltOf cf))) false)) v w':=by
  rintro hs p cap rfl;refine (hN p cap _ X.w).mono ?_;rintro e w' ⟨rfl,rfl⟩;exact ⟨_,rfl,.tup [],X,rfl,hi,Step.refl hi,⟨[],rfl,True.intro⟩,rfl,(e0 hs).symm⟩
 cases hg:X.G i0 with
 | none =>
  rw [hg] at h5;simp only at h5;have hs:es=[]:=by
   rcases hb with hb|⟨g,_,_,_,hb,_⟩
   ·exact hb.2
   ·rw [hg] at hb;cases hb
  exact fin0 hs _ _ (by rw [h5])
 | some g' =>
  rw [hg] at h5;simp only at h5;obtain ⟨cap,o,arr,el,fz,k1,k2,k3,k4,k5,k6⟩:=h5;by_cases hz:es.length=0
  ·rw [hz] at k2;exact fin0 (List.length_eq_zero_iff.1 hz) _ _ k2
  ·have ho:o=g'.2:=by
    rcases k3 with k3|k3
    ·omega
    ·simpa using k3
   subst ho;rcases hb with hb|⟨g'',arr',el',fz',b1,b2,b3,b4,b5⟩
   ·rw [hg] at hb;cases hb.1
   rw [hg] at b1;cases b1;rw [k1] at b2;cases b2;obtain ⟨d,d1,d2,d3⟩:=zLn (ok:=fun p v=>p∈es∧bJ X.w X.S p v) b5 fun e he v hr=>⟨he,hr⟩;have hdl:d.length=es.length:=by have:=congrArg List.length d1;simpa using this
   have hd0:d≠[]:=by rintro rfl;simp at hdl;omega
   haveI:Inhabited (El k fun p v=>p∈es∧bJ X.w X.S p v):=⟨d.head hd0⟩
   have hH:=ZG k1 b4.1 (by rw [hdl];exact b3) d3;have hlt:g'.1<X.w.heap.size:=by
    rcases Nat.lt_or_ge g'.1 X.w.heap.size with hb|hb
    ·exact hb
    ·rw [Array.getElem?_eq_none hb] at k1;cases k1
   subst k2;have hstep:∀ (n:Nat) (os:Array Obj) (d':List (El k fun p v=>p∈es∧bJ X.w X.S p v)),d'.length=d.length →
     ∃ X1:Ctx,X1.w=sortWorldK El.v k X.w g'.1 g'.2 n d'.toArray os∧HInv X1∧Step X X1∧X1.h=X.h.set i0 (.arr k (d'.map (·.p)) false):=by
    intro n os d' hsl;have ht:=AB (enc:=El.v) (k:=k) (n:=n) (off:=g'.2) (d:=d'.toArray) k1;have hsb:cD (.arr k es false) (.arr k (d'.map (·.p)) false):=⟨rfl,by rw [List.length_map];omega⟩
    have hs1:=Step.put hi hid rfl rfl hg ht hsb rfl;have hbb:dU (X.put (putRowK El.v k (Sort.ahead X.w n) g'.1 g'.2 d'.toArray) i0 (.arr k (d'.map (·.p)) false)) i0 (.arr k (d'.map (·.p)) false):=by
     refine .inr ⟨g',putCells id g'.2 (flatK El.v k d'.toArray) arr,el,fz,hg,by simp [Ctx.put,putRowK,putRow,mapBlock,Array.getElem?_modify,k1,onCells],?_,?_,?_⟩
     ·rw [List.length_map,hsl,hdl];simpa [putCells] using b3
     ·simpa [putCells] using b4
     ·refine SC hk0 ?_ fun x hx=>?_
      ·have:=holdsK_putRowK El.v k (Sort.ahead X.w n) g'.1 g'.2 d.toArray d'.toArray (holdsK_ahead El.v k X.w n g'.1 g'.2 d.toArray hH) (by simpa using hsl);exact this
      ·exact x.hk.2.kept hs1.kept
    have hi1:=HInv.put hi hid rfl rfl hg ht hsb rfl hbb;exact ⟨_,rfl,HInv.grew hi1 os,hs1.trans hi1 (Step.grew hi1 os),rfl⟩
   have hcmp:CmpLays P g #[] (El.v:El k (fun p v=>p∈es∧bJ X.w X.S p v)→List Value) k (fun x y=>cf x.p y.p) g'.1 g'.2 d.toArray.size X.w:=by
    intro m os dk hdk x y;obtain ⟨X1,e1,i1,s1,_⟩:=hstep m os dk.toList (by simpa using hdk);have:=zIX eg i1 gd s1 (hcl _ x.hk.1 _ y.hk.1) x.hk.2 y.hk.2;rw [e1] at this;simpa using this
   have hcl2:=hS El.v (fun x=>x.hv) (fun x=>x.h1) (fun x y=>cf x.p y.p) ⟨fun x=>hSW.irrefl _,fun x y z=>hSW.trans _ _ _,fun x y z=>hSW.ntrans _ _ _⟩ g'.1 g'.2 cap d.toArray X.w hcmp hH hlt (by simp;omega);have hsz2:d.toArray.size=es.length:=by simpa using hdl
   rw [hsz2] at hcl2;refine hcl2.mono ?_;rintro e w' ⟨rfl,d',n,os,p1,p2,rfl⟩;rw [← hsz2] at p1;have p1':d'.toList.Perm d:=by simpa using zD0 p1
   have hs':es.length=d'.size:=by rw [← hdl,← p1'.length_eq];simp
   have p2':=TB hs' p2;have hst:d'.toList.map (·.p)=es.mergeSort (WD (ltOf cf)):=by
    refine TA hSW hT (by have h7:=p1'.map (·.p);rw [d1] at h7;exact h7) ?_;exact List.Pairwise.map _ (fun _ _ h=>h) p2'
   rw [← hst];obtain ⟨X1,e1,i1,s1,hh1⟩:=hstep n os d'.toList p1'.length_eq;exact ⟨_,rfl,.tup [],X1,by simpa using e1,i1,s1,⟨[],rfl,True.intro⟩,rfl,hh1⟩
end Go.Dm
end
