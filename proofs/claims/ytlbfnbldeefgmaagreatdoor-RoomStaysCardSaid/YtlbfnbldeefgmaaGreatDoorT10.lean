/- Part 11 of the proof of roomStays_card, set without needless blanks. No condition. -/
import Derived.Shelf.SlSortCmp.InsertionK
import Derived.Sort.LotA
import Derived.Test.YtlbfnbldeefgmaaGreatDoorT09
set_option linter.all false
set_option maxRecDepth 100000
set_option maxHeartbeats 16000000
section
namespace Go.Dm
open Go Go.Proofs Go.Sort
section
variable {w:World}{S:Nat->Prop}{k bl off n:Nat}{es:List (List PV)}{ok:List PV->List Value->Prop}{arr:Array Value}{fz:Nat × Nat}{X:Ctx}{P:Program}{g:FuncId}
structure El (k:Nat) (ok:List PV->List Value->Prop) where
 v:List Value
 p:List PV
 hv:v.length=k
 hp:p.length=k
 h1:∀x∈v,x.oneCell'=true
 hk:ok p v
theorem zNI(hl:fC w S k bl off es)(hok:∀e∈es,∀v,bI w S e v->ok e v):
  ∃d:List (El k ok),d.map (·.p)=es/\(∀x∈d,bI w S x.p x.v)/\∀(i:Nat) (x:El k ok),d[i]?=some x->∀(j:Nat) (v:Value),x.v[j]?=some v->w.cell? ⟨bl,off+i*k+j,none⟩=some v:=by
 have key:∀i,i<es.length->∃x:El k ok,es[i]?=some x.p/\bI w S x.p x.v/\∀(j:Nat) (v:Value),x.v[j]?=some v->w.cell? ⟨bl,off+i*k+j,none⟩=some v:=by
  intro i hi;obtain⟨h1,h2⟩:=hl.at_ (List.getElem?_eq_getElem hi);obtain⟨vs,h3,h4⟩:=h2.vals;exact⟨⟨vs,es[i],by rw[<- h3.length];exact h1,h1,h3.oneCell,hok _ (List.getElem_mem hi) _ h3⟩,List.getElem?_eq_getElem hi,h3,h4⟩
 obtain⟨d,h1,h2⟩:=rK es.length key;refine⟨d,List.ext_getElem? λi=>?_,λx hx=>?_,λi x hx=>(h2 i x hx).2.2⟩
 .rw[List.getElem?_map];rcases Nat.lt_or_ge i d.length with hi|hi
  .rw[List.getElem?_eq_getElem hi];exact((h2 i _ (List.getElem?_eq_getElem hi)).1).symm
  .rw[List.getElem?_eq_none hi,List.getElem?_eq_none (by omega)];rfl
 .obtain⟨i,hi⟩:=List.mem_iff_getElem?.1 hx;exact(h2 i x hi).2.1
theorem zAQ[Inhabited (El k ok)]{d:List (El k ok)}{el:TypeId}(hb:w.heap[bl]?=some (.cells arr el fz))(hf:XL fz off arr.size)(hs:off+d.length*k<=arr.size)
 (hc:∀(i:Nat) (x:El k ok),d[i]?=some x->∀(j:Nat) (v:Value),x.v[j]?=some v->w.cell? ⟨bl,off+i*k+j,none⟩=some v):HoldsK El.v k w bl off d.toArray:=by
 intro t ht;have ht':t<d.length*k:=by simpa using ht
 have hk:0<k:=by rcases Nat.eq_zero_or_pos k with h|h;subst h;simp at ht';exact h
 have hi:t / k<d.length:=(Nat.div_lt_iff_lt_mul hk).2 ht';refine⟨?_,?_⟩
 .rw[get_flatK _ _ _ t (by simpa using ht')];have hx:d[t / k]?=some d[t / k]:=List.getElem?_eq_getElem hi;have hm:t % k<(d[t / k]).v.length:=by rw[(d[t / k]).hv];exact Nat.mod_lt _ hk
  have:=hc (t / k) _ hx (t % k) _ (List.getElem?_eq_getElem hm);rw[Nat.add_assoc,Nat.mul_comm,Nat.div_add_mod] at this;rw[this,getElem!_pos d.toArray (t / k) (by simpa using hi)];simp only[List.getElem_toArray,id];rw[getElem!_pos _ (t % k) hm]
 .have:=hf.at_ (off+t) (by omega) (by omega);simp only[World.frozen?,hb];simpa using this
theorem CJ{α:Type}[Inhabited α]{enc:α->List Value}{d:Array α}{el:TypeId}(hb:w.heap[bl]?=some (.cells arr el fz)):Touched w (putRowK enc k (Sort.ahead w n) bl off d) bl where
 os:=rfl
 tape:=rfl
 output:=⟨rfl,Nat.le_add_right _ _⟩
 size:=by simp[putRowK]
 other:=λb hne=>by simp[putRowK,putRow,mapBlock,Array.getElem?_modify,Ne.symm hne]
 here:=.inl ⟨arr,el,fz,putCells id off (flatK enc k d) arr,el,fz,hb,by simp[putRowK,putRow,mapBlock,Array.getElem?_modify,hb,onCells],by simp[putCells]⟩
theorem WM[Inhabited (El k ok)]{d:List (El k ok)}(hk:0<k)(hH:HoldsK El.v k w bl off d.toArray)(hr:∀x∈d,bI w S x.p x.v):fC w S k bl off (d.map (·.p)) :=
 fC.mk λj e hj=>by
  rw[List.getElem?_map] at hj;obtain⟨x,hx,rfl⟩:=Option.map_eq_some_iff.1 hj;refine⟨x.hp,gW.mk λc y hy=>?_⟩;obtain⟨v,hv,hrv⟩:=(hr x (List.mem_of_getElem? hx)).at_ hy;refine⟨v,?_,hrv⟩;have hc:c<k:=by have:=aH hy;rw[x.hp] at this;exact this
  have hjl:j<d.length:=aH hx;have hb:j*k+c<d.length*k:=by
   have:=Nat.mul_le_mul_right k (show j+1<=d.length from hjl)
   rw[Nat.add_mul,Nat.one_mul] at this;omega
  have h:=(hH (j*k+c) (by simpa using hb)).1;rw[get_flatK _ _ _ _ (by simpa using hb),Nat.mul_comm j k,Nat.mul_add_div hk,Nat.div_eq_of_lt hc,Nat.add_zero,Nat.mul_add_mod,Nat.mod_eq_of_lt hc] at h;rw[getElem!_pos d.toArray j (by simpa using hjl)] at h;have hxe:d[j]=x:=by rw[List.getElem?_eq_getElem hjl] at hx;exact Option.some.inj hx
  have hcv:c<x.v.length:=by rw[x.hv];exact hc
  simp only[List.getElem_toArray,id,hxe] at h;rw[getElem!_pos _ c hcv] at h;rw[show off+j*k+c=off+(k*j+c) by rw[Nat.mul_comm];omega,h]
  rw[List.getElem?_eq_getElem hcv] at hv;exact hv
def SE(lt:List PV->List PV->Bool)(x y:List PV):Bool:=!lt y x
theorem XA{lt:List PV->List PV->Bool}(hS:SWO lt){es':List (List PV)}(hT:∀x∈es,∀y∈es,lt x y=false->lt y x=false->x=y)(hp:es'.Perm es)(hs:es'.Pairwise λx y=>lt y x=false):es'=es.mergeSort (SE lt):=by
 refine List.Perm.eq_of_pairwise (le:=λx y=>(SE lt x y)=true) ?_ ?_ ?_ (hp.trans (List.mergeSort_perm _ _).symm)
 .intro a b ha hb h1 h2;simp only[SE,Bool.not_eq_true'] at h1 h2;exact hT a (hp.mem_iff.1 ha) b (List.mem_mergeSort.1 hb) h2 h1
 .exact hs.imp λ{a b} h=>by simpa[SE] using h
 .refine List.pairwise_mergeSort ?_ ?_ _
  .intro a b c h1 h2;simp only[SE,Bool.not_eq_true'] at h1 h2 ⊢;exact hS.ntrans c b a h2 h1
  .intro a b;simp only[SE];cases h:lt b a with
   | false=>simp
   | true=>simp[hS.asymmA h]
theorem zFs{α:Type}[Inhabited α]{d d':Array α}(h:PermIn 0 d.size d d'):d'.toList.Perm d.toList:=by
 obtain⟨hsz,_,hperm⟩:=h;have e1:d'.extract 0 d.size=d':=by rw[<- hsz];exact Array.extract_size
 rw[e1,Array.extract_size] at hperm;exact hperm
theorem XB{α:Type}[Inhabited α]{lt:α->α->Bool}{d:Array α}(hn:n=d.size)(h:SortedIn lt 0 n d):d.toList.Pairwise λx y=>lt y x=false:=by
 subst hn;rw[List.pairwise_iff_getElem];intro i j hi hj hij;have hi':i<d.size:=by simpa using hi
 have hj':j<d.size:=by simpa using hj
 have:=h i j (Nat.zero_le _) hij hj';rw[getElem!_pos d j hj',getElem!_pos d i hi'] at this;simpa using this
theorem XK{a b:World}(h1:b.os=a.os)(h2:b.tape=a.tape)(h3:sH a b)(hs:a.heap.size<=b.heap.size)(hf:∀i,i<a.heap.size->b.heap[i]?=a.heap[i]?):∃q os',b=grow (a.drewN q) os':=by
 refine ⟨b.drawn-a.drawn,b.heap.extract a.heap.size b.heap.size,?_⟩;obtain⟨h3,h4⟩:=h3;have e:b.heap=a.heap++b.heap.extract a.heap.size b.heap.size:=by
  refine Array.ext_getElem? λi=>?_;rw[Array.getElem?_append];split
  .rename_i hi;exact hf i hi
  .rename_i hi;rw[Array.getElem?_extract];split
   .congr 1;omega
   .rename_i hi2;exact Array.getElem?_eq_none (by omega)
 have e2:a.drawn+(b.drawn-a.drawn)=b.drawn:=by omega
 cases a;cases b;simp only[grow,World.drewN] at *;subst h1 h2 h3;simp only[World.mk.injEq,true_and,and_true];exact⟨e,e2.symm⟩
theorem KD: ∀{ps:List PV} {vs:List Value},bI X.w X.S ps vs->bC X (ps.map CV.p) vs
 | [],[],_=>trivial
 | _::_,_::_,h=>⟨h.1,KD h.2⟩
 | [],_::_,h=>h.elim
 | _::_,[],h=>h.elim
theorem zK7{cf:List PV->List PV->Int}{X1:Ctx}{a b:List PV}{va vb:List Value}(eg:∀args w,(callFunc g args).run P w=.ok (.enter g args) w)(hi:HInv X1)(gd:Gnd P X)(hst:Step X X1)
 (hc:aA P g [.agg (a.map CV.p),.agg (b.map CV.p)] [] λd h=>d=.c (.p (.i .i64 (cf a b)))/\h=[])(ha:bI X.w X.S a va)(hb:bI X.w X.S b vb):
  Calls P g #[.agg va.toArray,.agg vb.toArray] X1.w λe w'=>e=.returned (.int .i64 (cf a b))/\∃q os',w'=grow (X1.w.drewN q) os':=by
 have key:∀v w',Ret X1.bare (λd h=>d=.c (.p (.i .i64 (cf a b)))/\h=[]) v w'->v=.int .i64 (cf a b)/\∃q os',w'=grow (X1.w.drewN q) os':=by
  rintro v w' ⟨d,Z,rfl,_,h3,h4,rfl,_⟩;exact⟨h4,XK h3.os h3.tape h3.output h3.size λi hi=>h3.frame i hi λid db g h=>by simp[Ctx.bare] at h⟩
 rcases hc X1.bare [.agg va.toArray,.agg vb.toArray] rfl hi.bare (show Gnd P X1 from gd.step hst) ⟨⟨va,rfl,KD (ha.kept hst.kept)⟩,⟨vb,rfl,KD (hb.kept hst.kept)⟩,trivial⟩ with⟨_,h2⟩|⟨v,w',h1,_⟩
 .exact h2.mono λe w' ⟨v,he,hv⟩=>by
   obtain⟨h5,h6⟩:=key v w' hv;exact⟨by rw[he,h5],h6⟩
 .have:=eg #[.agg va.toArray,.agg vb.toArray] X1.w;have h1':(callFunc g #[.agg va.toArray,.agg vb.toArray]).run P X1.w=.ok (.value v) w':=h1;rw[this] at h1';cases h1'
theorem lP{f:FuncId}(k:Nat)(hk0:0<k)(cf:List PV->List PV->Int)(hSW:SWO (ltOf cf))
 (hen:∀(vals:List Value) (w:World),(callFunc f vals.toArray).run P w=.ok (.enter f vals.toArray) w)
 (eg:∀args w,(callFunc g args).run P w=.ok (.enter g args) w)
 (hS:∀{α:Type} [Inhabited α] (enc:α->List Value) (_:∀x,(enc x).length=k) (_:∀x,∀v∈enc x,v.oneCell'=true) (c:α->α->Int) (_:SWO (ltOf c)) (blk off cap:Nat) (d:Array α) (w:World),
 CmpLays P g #[] enc k c blk off d.size w->HoldsK enc k w blk off d->blk<w.heap.size->d.size<4611686018427387904 ->
 Calls P f #[.slice (some ⟨blk,off,none⟩) d.size cap,.func (.func g) #[] #[]] w λe w'=>e=.returned (.tuple #[])/\∃(d':Array α) (n:Nat) (os:Array Obj),PermIn 0 d.size d d'/\SortedIn (ltOf c) 0 d.size d'/\w'=sortWorldK enc k w blk off n d' os)
 (hN:∀(p:Option Addr) (cap:Nat) (fv:Value) (w:World),Calls P f #[.slice p 0 cap,fv] w λe w'=>e=.returned (.tuple #[])/\w'=w)
 {h:aB}{i0:Nat}(hcl:∀x∈es,∀y∈es,aA P g [.agg (x.map CV.p),.agg (y.map CV.p)] [] λd h=>d=.c (.p (.i .i64 (cf x y)))/\h=[])
 (hT:∀x∈es,∀y∈es,ltOf cf x y=false->ltOf cf y x=false->x=y)
 (hid:h[i0]?=some (.arr k es false))(hsz:es.length<4611686018427387904):
  aA P f [.c (.own i0 0 es.length),.c (.clo g [])] h λd h'=>d=.tup []/\h'=h.set i0 (.arr k (es.mergeSort (SE (ltOf cf))) false):=by
 intro X vals hh hi gd hr;subst hh;obtain⟨v,rfl,hv⟩:∃v,vals=[v,.func (.func g) #[] #[]]/\bA X (.c (.own i0 0 es.length)) v:=by
  cases vals with
  | nil=>exact hr.elim
  | cons v vs=>cases vs with
   | nil=>exact hr.2.elim
   | cons u us=>cases us with
    | cons _ _=>exact hr.2.2.elim
    | nil =>
     obtain⟨cs,h2,h3⟩:=hr.2.1;cases cs with
     | nil=>exact⟨v,by rw[h2],hr.1⟩
     | cons _ _=>exact h3.elim
 refine .inl ⟨hen _ _,?_⟩;obtain⟨h1,h2,h3⟩:=hv;obtain⟨h4,h5⟩:=h3 _ _ _ hid;have hb:=hi.blk i0 _ hid;have e0:es=[]->X.h.set i0 (.arr k (es.mergeSort (SE (ltOf cf))) false)=X.h:=by
  rintro rfl;rw[List.mergeSort_nil];exact(List.getElem?_eq_some_iff.1 hid).elim λhlt he=>by rw[<- he];exact List.set_getElem_self hlt
 have fin0:es=[]->∀(p:Option Addr) (cap:Nat),v=.slice p 0 cap->Calls P f [v,.func (.func g) #[] #[]].toArray X.w λe w'=>∃v,e=.returned v/\Ret X (λd h'=>d=.tup []/\h'=X.h.set i0 (.arr k (es.mergeSort (SE (ltOf cf))) false)) v w':=by
  rintro hs p cap rfl;refine(hN p cap _ X.w).mono ?_;rintro e w' ⟨rfl,rfl⟩;exact⟨_,rfl,.tup [],X,rfl,hi,Step.refl hi,⟨[],rfl,True.intro⟩,rfl,(e0 hs).symm⟩
 cases hg:X.G i0 with
 | none =>
  rw [hg] at h5;simp only at h5;have hs:es=[]:=by
   rcases hb with hb|⟨g,_,_,_,hb,_⟩
   .exact hb.2
   .rw[hg] at hb;cases hb
  exact fin0 hs _ _ (by rw[h5])
 | some g' =>
  rw[hg] at h5;simp only at h5;obtain⟨cap,o,arr,el,fz,k1,k2,k3,k4,k5,k6⟩:=h5;by_cases hz:es.length=0
  .rw[hz] at k2;exact fin0 (List.length_eq_zero_iff.1 hz) _ _ k2
  .have ho:o=g'.2:=by
    rcases k3 with k3|k3
    .omega
    .simpa using k3
   subst ho;rcases hb with hb|⟨g'',arr',el',fz',b1,b2,b3,b4,b5⟩
   .rw[hg] at hb;cases hb.1
   rw[hg] at b1;cases b1;rw[k1] at b2;cases b2;obtain⟨d,d1,d2,d3⟩:=zNI (ok:=λp v=>p∈es/\bI X.w X.S p v) b5 λe he v hr=>⟨he,hr⟩;have hdl:d.length=es.length:=by have:=congrArg List.length d1;simpa using this
   have hd0:d≠[]:=by rintro rfl;simp at hdl;omega
   haveI:Inhabited (El k λp v=>p∈es/\bI X.w X.S p v):=⟨d.head hd0⟩
   have hH:=zAQ k1 b4.1 (by rw[hdl];exact b3) d3;have hlt:g'.1<X.w.heap.size:=by
    rcases Nat.lt_or_ge g'.1 X.w.heap.size with hb|hb
    .exact hb
    .rw[Array.getElem?_eq_none hb] at k1;cases k1
   subst k2;have hstep:∀(n:Nat) (os:Array Obj) (d':List (El k λp v=>p∈es/\bI X.w X.S p v)),d'.length=d.length ->
     ∃X1:Ctx,X1.w=sortWorldK El.v k X.w g'.1 g'.2 n d'.toArray os/\HInv X1/\Step X X1/\X1.h=X.h.set i0 (.arr k (d'.map (·.p)) false):=by
    intro n os d' hsl;have ht:=CJ (enc:=El.v) (k:=k) (n:=n) (off:=g'.2) (d:=d'.toArray) k1;have hsb:cG (.arr k es false) (.arr k (d'.map (·.p)) false):=⟨rfl,by rw[List.length_map];omega⟩
    have hs1:=Step.put hi hid rfl rfl hg ht hsb rfl;have hbb:eC (X.put (putRowK El.v k (Sort.ahead X.w n) g'.1 g'.2 d'.toArray) i0 (.arr k (d'.map (·.p)) false)) i0 (.arr k (d'.map (·.p)) false):=by
     refine .inr ⟨g',putCells id g'.2 (flatK El.v k d'.toArray) arr,el,fz,hg,by simp[Ctx.put,putRowK,putRow,mapBlock,Array.getElem?_modify,k1,onCells],?_,?_,?_⟩
     .rw[List.length_map,hsl,hdl];simpa[putCells] using b3
     .simpa[putCells] using b4
     .refine WM hk0 ?_ λx hx=>?_
      .have:=holdsK_putRowK El.v k (Sort.ahead X.w n) g'.1 g'.2 d.toArray d'.toArray (holdsK_ahead El.v k X.w n g'.1 g'.2 d.toArray hH) (by simpa using hsl);exact this
      .exact x.hk.2.kept hs1.kept
    have hi1:=HInv.put hi hid rfl rfl hg ht hsb rfl hbb;exact⟨_,rfl,HInv.grew hi1 os,hs1.trans hi1 (Step.grew hi1 os),rfl⟩
   have hcmp:CmpLays P g #[] (El.v:El k (λp v=>p∈es/\bI X.w X.S p v)->List Value) k (λx y=>cf x.p y.p) g'.1 g'.2 d.toArray.size X.w:=by
    intro m os dk hdk x y;obtain⟨X1,e1,i1,s1,_⟩:=hstep m os dk.toList (by simpa using hdk);have:=zK7 eg i1 gd s1 (hcl _ x.hk.1 _ y.hk.1) x.hk.2 y.hk.2;rw[e1] at this;simpa using this
   have hcl2:=hS El.v (λx=>x.hv) (λx=>x.h1) (λx y=>cf x.p y.p) ⟨λx=>hSW.irrefl _,λx y z=>hSW.trans _ _ _,λx y z=>hSW.ntrans _ _ _⟩ g'.1 g'.2 cap d.toArray X.w hcmp hH hlt (by simp;omega);have hsz2:d.toArray.size=es.length:=by simpa using hdl
   rw[hsz2] at hcl2;refine hcl2.mono ?_;rintro e w' ⟨rfl,d',n,os,p1,p2,rfl⟩;rw[<- hsz2] at p1;have p1':d'.toList.Perm d:=by simpa using zFs p1
   have hs':es.length=d'.size:=by rw[<- hdl,<- p1'.length_eq];simp
   have p2':=XB hs' p2;have hst:d'.toList.map (·.p)=es.mergeSort (SE (ltOf cf)):=by
    refine XA hSW hT (by have h7:=p1'.map (·.p);rw[d1] at h7;exact h7) ?_;exact List.Pairwise.map _ (λ_ _ h=>h) p2'
   rw[<- hst];obtain⟨X1,e1,i1,s1,hh1⟩:=hstep n os d'.toList p1'.length_eq;exact⟨_,rfl,.tup [],X1,by simpa using e1,i1,s1,⟨[],rfl,True.intro⟩,rfl,hh1⟩
end
section
variable {l:List Ch}{i:Nat}{c:Ch}{t:List It}{ks:List (List UInt8)}{x:It}
def leI(x y:It):Bool:=!bT y.p x.p
def hD(l:List It):List It:=l.mergeSort leI
def PM: List PV->List UInt8
 | .s p::_=>p
 | _=>[]
def zN4(x y:List PV):Bool:=bT (PM x) (PM y)
theorem zJB: SWO zN4 where
 irrefl _:=bX _
 trans _ _ _:=cH
 ntrans x y z h k:=by
  unfold zN4 at *;cases e:bT (PM x) (PM z) with
  | false=>rfl
  | true =>
   cases f:bT (PM y) (PM x) with
   | true=>have:=cH f e;rw[k] at this;cases this
   | false=>have:=eL h f;rw[this,k] at e;cases e
def cfI(x y:List PV):Int:=CT (PM x) (PM y)
theorem NU: ltOf cfI=zN4:=by
 funext x y
 exact oM
theorem XC: SWO (ltOf cfI):=by rw[NU];exact zJB
theorem LG{l:List It}(hu:∀x∈l,∀y∈l,x.p=y.p->x=y):∀x∈aQ l,∀y∈aQ l,ltOf cfI x y=false->ltOf cfI y x=false->x=y:=by
 rw[NU];intro x hx y hy h k;obtain⟨a,ha,rfl⟩:=List.mem_map.1 hx;obtain⟨b,hb,rfl⟩:=List.mem_map.1 hy;rw[hu a ha b hb (eL h k)]
theorem MP(l:List It):(aQ l).mergeSort (SE (ltOf cfI))=aQ (hD l):=by
 rw[NU];unfold aQ hD;exact(List.map_mergeSort (r:=leI) (s:=SE zN4) (f:=It.cs) (l:=l) λa _ b _=>rfl).symm
theorem vZ(l:List It):(hD l).Perm l:=List.mergeSort_perm _ _
theorem CG(l:List It):(hD l).length=l.length:=List.length_mergeSort ..
theorem RG(l:List It):(hD l).Pairwise λx y=>bT y.p x.p=false:=by
 have h:(hD l).Pairwise λx y=>leI x y=true:=by
  refine List.pairwise_mergeSort (le:=leI) ?_ ?_ _
  .intro a b c h1 h2;simp only[leI,Bool.not_eq_true'] at h1 h2 ⊢;cases e:bT c.p a.p with
   | false=>rfl
   | true =>
    cases f:bT a.p b.p with
    | true=>have:=cH e f;rw[h2] at this;cases this
    | false=>have:=eL f h1;rw[<- this,e] at h2;cases h2
  .intro a b;simp only[leI];cases h:bT b.p a.p with
   | false=>simp
   | true=>simp[gB h]
 exact h.imp λ{a b} h=>by simpa[leI] using h
theorem zGb{l:List It}(hn:(l.map It.p).Nodup):Srt (hD l):=by
 have hn2:((hD l).map It.p).Nodup:=(((vZ l).map It.p).nodup_iff).2 hn;have h1:=RG l;have h2:(hD l).Pairwise λx y=>x.p≠y.p:=List.pairwise_map.1 hn2;exact(h1.and h2).imp λ{a b} ⟨h,k⟩=>by
  cases e:bT a.p b.p with
  | true=>rfl
  | false=>exact absurd (eL e h) k
def xH(t:List It)(c:Ch):Bool:=if c.k==1 then !(aN t c.p).isSome else (aN t c.p).isSome && pF ((aN t c.p).getD nd0) c.o
def DK(c:Ch):List It:=if c.k != 2 then [⟨c.p,c.n⟩] else []
def AY(l:List Ch):List It:=l.flatMap DK
def QC(ks:List (List UInt8))(x:It):List It:=if !(ks.contains x.p) then [x] else []
def vV(t:List It)(ks:List (List UInt8)):List It:=t.flatMap (QC ks)
def tL(l:List Ch):List (List UInt8):=(l.map Ch.p).reverse
def WH(t:List It)(l:List Ch):List It:=AY l++vV t (tL l)
def gA(t:List It)(l:List Ch):List It × Int :=
 if !jM l then ([],1) else if !(l.all (xH t)) then ([],17)
 else if decide ((120:Int)<((hD (WH t l)).length:Int)) then ([],16) else if !kY (hD (WH t l)) then ([],17) else (hD (WH t l),0)
theorem zA7(h:l[i]?=some c):AY (l.take (i+1))=AY (l.take i)++DK c:=by
 simp[AY,List.take_add_one,h]
theorem zAY(h:l[i]?=some c):tL (l.take (i+1))=c.p::tL (l.take i):=by
 simp[tL,List.take_add_one,h]
theorem zBz(h:t[i]?=some x):vV (t.take (i+1)) ks=vV (t.take i) ks++QC ks x:=by
 simp[vV,List.take_add_one,h]
theorem zE2(c:Ch):(DK c).length<=1:=by unfold DK;split<;>simp
theorem zFR(ks:List (List UInt8))(x:It):(QC ks x).length<=1:=by unfold QC;split<;>simp
theorem zE3(l:List Ch):(AY l).length<=l.length:=by
 induction l with
 | nil=>simp[AY]
 | cons c l ih =>
  have:=zE2 c;simp only[AY,List.flatMap_cons,List.length_append,List.length_cons] at ih ⊢;omega
theorem zFS(t:List It)(ks:List (List UInt8)):(vV t ks).length<=t.length:=by
 induction t with
 | nil=>simp[vV]
 | cons c l ih =>
  have:=zFR ks c;simp only[vV,List.flatMap_cons,List.length_append,List.length_cons] at ih ⊢;omega
theorem zIT(h:x∈AY l):∃c∈l,x=⟨c.p,c.n⟩:=by
 obtain⟨c,hc,hx⟩:=List.mem_flatMap.1 h;unfold DK at hx;split at hx
 .exact⟨c,hc,by simpa using hx⟩
 .simp at hx
theorem YO(h:x∈vV t ks):x∈t/\ks.contains x.p=false:=by
 obtain⟨c,hc,hx⟩:=List.mem_flatMap.1 h;unfold QC at hx;split at hx
 .obtain rfl:x=c:=by simpa using hx
  rename_i hk;exact⟨hc,by simpa only[Bool.not_eq_true'] using hk⟩
 .simp at hx
theorem uD: ∀{l:List Ch} {q:Option (List UInt8)},iE q l=true->l.Pairwise (λx y=>bT x.p y.p=true)/\∀p,q=some p->∀c∈l,bT p c.p=true
 | [],q,_=>⟨List.Pairwise.nil,λp _ c hc=>by cases hc⟩
 | d::l,q,h=>by
  rw[iE,Bool.and_eq_true,Bool.and_eq_true] at h;have ih:=uD (l:=l) h.2;have hd:∀c∈l,bT d.p c.p=true:=ih.2 d.p rfl;refine⟨List.pairwise_cons.2 ⟨hd,ih.1⟩,λp hp c hc=>?_⟩;subst hp;have h1:bT p d.p=true:=by simpa[yQ] using h.1.2
  rcases List.mem_cons.1 hc with rfl|hc
  .exact h1
  .exact cH h1 (hd c hc)
theorem oV{α β:Type}{f:α->β}:∀{l:List α},(l.map f).Nodup->∀x∈l,∀y∈l,f x=f y->x=y
 | [],_,x,hx,_,_,_=>by cases hx
 | a::l,h,x,hx,y,hy,e=>by
  rw[List.map_cons,List.nodup_cons] at h;have hx':=List.mem_cons.1 hx;have hy':=List.mem_cons.1 hy;clear hx hy;rcases hx' with rfl|hx<;>rcases hy' with rfl|hy
  .rfl
  .exact absurd (List.mem_map.2 ⟨y,hy,e.symm⟩) h.1
  .exact absurd (List.mem_map.2 ⟨x,hx,e⟩) h.1
  .exact oV h.2 x hx y hy e
theorem JM: ∀l:List Ch,((AY l).map It.p).Sublist (l.map Ch.p)
 | []=>List.Sublist.slnil
 | c::l=>by
  have ih:=JM l;simp only[AY,List.flatMap_cons,List.map_append,List.map_cons] at ih ⊢;unfold DK;split
  .exact ih.cons_cons _
  .exact ih.cons _
theorem ZF(ks:List (List UInt8)):∀t:List It,(vV t ks).Sublist t
 | []=>List.Sublist.slnil
 | c::l=>by
  have ih:=ZF ks l;simp only[vV,List.flatMap_cons] at ih ⊢;unfold QC;split
  .exact ih.cons_cons _
  .exact ih.cons _
theorem zBd(ht:Srt t)(h:jM l=true):((WH t l).map It.p).Nodup:=by
 have h1:=(uD h).1;have n1:(l.map Ch.p).Nodup:=List.pairwise_map.2 (h1.imp λ{a b} h e=>by have:=lO h;rw[e] at this;simp at this)
 have n2:(t.map It.p).Nodup:=List.pairwise_map.2 (ht.imp λ{a b} h e=>by have:=lO h;rw[e] at this;simp at this)
 unfold WH;rw[List.map_append];refine List.nodup_append.2 ⟨(JM l).nodup n1,((ZF _ t).map _).nodup n2,λp hp q hq e=>?_⟩;subst e;obtain⟨x,hx,rfl⟩:=List.mem_map.1 hq;obtain⟨_,hk⟩:=YO hx;have:x.p∈l.map Ch.p:=(JM l).subset hp;have:(tL l).contains x.p=true:=by simpa[tL] using this
 rw[hk] at this;cases this
theorem zI5(ht:Srt t)(h:jM l=true):∀x∈WH t l,∀y∈WH t l,x.p=y.p->x=y:=oV (zBd ht h)
theorem zET(h:x∈hD (WH t l)):(∃c∈l,x=⟨c.p,c.n⟩)∨x∈t:=by
 have h:=(vZ _).mem_iff.1 h;rcases List.mem_append.1 h with h|h
 .exact .inl (zIT h)
 .exact .inr (YO h).1
end
theorem zKF{s:List It}(hs:Srt s):s.Nodup:=hs.imp λ{a b} h e=>by subst e;rw[bX] at h;cases h
theorem GF{s t:List It}(hs:Srt s)(ht:Srt t)(h:∀x,x∈s↔x∈t):s=t :=
 List.Perm.eq_of_pairwise (le:=λ(x y:It)=>bT x.p y.p=true) (λ_ _ _ _ h k=>by rw[gB h] at k;cases k) hs ht ((List.perm_ext_iff_of_nodup (zKF hs) (zKF ht)).2 h)
end Go.Dm
end
section
namespace Go.Dm
open Go
variable {p:List UInt8}{t:List It}{i:Nat}{x:It}
theorem zEo{α β:Type}{f:α->β}:∀{l:List α},(l.map f).Nodup->∀x∈l,∀y∈l,f x=f y->x=y
 | [],_,x,hx,_,_,_=>by cases hx
 | z::l,h,x,hx,y,hy,e=>by
  rw[List.map_cons,List.nodup_cons] at h;rcases List.mem_cons.1 hx with h1|h1<;>rcases List.mem_cons.1 hy with h2|h2
  .rw[h1,h2]
  .subst h1;exact absurd (e▸List.mem_map_of_mem (f:=f) h2) h.1
  .subst h2;exact absurd (e▸List.mem_map_of_mem (f:=f) h1) h.1
  .exact zEo h.2 x h1 y h2 e
theorem ZK{n:Nd}{b:List It}:∀{a:List It},(∀x∈a,bT x.p p=true)->CW p n false (a++b)=a++CW p n false b
 | [],_=>rfl
 | x::a,h=>by
  have hx:=h x List.mem_cons_self;have hn:=lO hx;have:=ZK (n:=n) (b:=b) λy hy=>h y (List.mem_cons_of_mem _ hy);rw[List.cons_append,CW,hx,hn];simpa using this
def At(t:List It)(p:List UInt8)(i:Nat):Prop:=i<=t.length/\∀k x,t[k]?=some x->(k<i->bT x.p p=true)/\(i<=k->bT x.p p=false)
theorem zF4{n:Nd}(hs:Srt t)(h:At t p i):xL t p n=t.take i++⟨p,n⟩::(match t[i]? with|some x=>if x.p==p then t.drop (i+1) else t.drop i|none=>[]):=by
 obtain ⟨hi,h⟩:=h;have e:t=t.take i++t.drop i:=(List.take_append_drop i t).symm;have h1:∀x∈t.take i,bT x.p p=true:=λx hx=>by
  obtain⟨k,hk,rfl⟩:=List.mem_iff_getElem.1 hx;rw[List.getElem_take];have hk2:k<i:=by simp at hk;omega
  exact(h k _ (List.getElem?_eq_getElem (by omega))).1 hk2
 unfold xL
 conv=>lhs;rw[e]
 rw[ZK h1]
 congr 1
 rcases Nat.lt_or_ge i t.length with hl|hl
 .have hx:t[i]?=some t[i]:=List.getElem?_eq_getElem hl;have hd:=drop_at hx;have hb:=(h i _ hx).2 (Nat.le_refl _);rw[hx];simp only;rw[hd,CW,hb,Bool.not_false,Bool.or_true,uL];have hdr:rG (t.drop (i+1)) p=t.drop (i+1):=List.filter_eq_self.2 λy hy=>by
   obtain⟨k,hk,rfl⟩:=List.mem_iff_getElem.1 hy;have hk2:i+1+k<t.length:=by simp at hk;omega
   have h3:=List.pairwise_iff_getElem.1 hs i (i+1+k) hl hk2 (by omega);rw[List.getElem_drop];cases hq:(t[i+1+k].p==p)
   .rfl
   .rw[eq_of_beq hq,hb] at h3;cases h3
  rw[hdr];cases t[i].p==p<;>rfl
 .rw[List.getElem?_eq_none hl,List.drop_of_length_le hl];rfl
theorem GB{n:Nd}(hs:Srt t)(h:At t p i)(hx:t[i]?=some x)(hp:(x.p==p)=true):xL t p n=t.set i ⟨p,n⟩:=by
 rw[zF4 hs h,hx];simp only;rw[hp,if_pos rfl,List.set_eq_take_append_cons_drop,if_pos (List.getElem?_eq_some_iff.1 hx).1]
theorem KK{n:Nd}(hs:Srt t)(h:At t p i)(hx:∀x,t[i]?=some x->(x.p==p)=false):xL t p n=t.take i++⟨p,n⟩::t.drop i:=by
 rw[zF4 hs h]
 congr 2
 cases hq:t[i]? with
 | none=>rw[List.drop_of_length_le (List.getElem?_eq_none_iff.1 hq)]
 | some x=>simp only;rw[hx x hq,if_neg (by decide)]
def sJ(a b:List UInt8)(x:It):It:=if mvd a x then ⟨b++x.p.drop a.length,x.n⟩ else x
def KX(t:List It)(a b:List UInt8):List It:=t.map (sJ a b)
def fB(x:It):Bool:=!decide ((120:Int)<(x.p.length:Int))
theorem NX{a b:List UInt8}:∀(t out:List It),(∀x∈t,mvd a x=true->fB ⟨b++x.p.drop a.length,x.n⟩=true)->(fT a b out t).2=0
 | [],_,_=>rfl
 | x::r,out,h=>by
  have hr:=λo=>NX (a:=a) (b:=b) r o λy hy=>h y (List.mem_cons_of_mem _ hy);rw[fT];split
  .exact hr _
  .rename_i hc;have hm:mvd a x=true:=by
    have hc2:(!(x.p==a) && !aJ a x.p)=false:=by simpa only[Bool.not_eq_true] using hc
    rw[mvd,hc2];rfl
   have:=h x List.mem_cons_self hm;simp only[fB,List.length_append,Bool.not_eq_true'] at this;rw[this,if_neg (by decide)];exact hr _
theorem AQ{a b:List UInt8}:∀(t out:List It),(∃x∈t,mvd a x=true/\fB ⟨b++x.p.drop a.length,x.n⟩=false)->fT a b out t=([],12)
 | [],_,h=>by obtain⟨x,hx,_⟩:=h;cases hx
 | x::r,out,h=>by
  rw[fT];split
  .rename_i hc;refine AQ r _ ?_;obtain⟨y,hy,h1,h2⟩:=h;rcases List.mem_cons.1 hy with rfl|hy
   .unfold mvd at h1;rw[hc] at h1;cases h1
   .exact⟨y,hy,h1,h2⟩
  .split
   .rfl
   .rename_i hl;refine AQ r _ ?_;obtain⟨y,hy,h1,h2⟩:=h;rcases List.mem_cons.1 hy with rfl|hy
    .simp only[fB,List.length_append,Bool.not_eq_false'] at h2;exact absurd h2 hl
    .exact⟨y,hy,h1,h2⟩
theorem AP{a b:List UInt8}(h:OkT t)(ha:a≠[])(hb:b≠[])(hbt:(aN t b).isSome=false):((KX t a b).map It.p).Nodup:=by
 have hno:∀y∈t,∀s,(s=[]∨∃r,s=47::r)->b++s≠y.p:=λy hy s hs e=>by
  rcases hs with rfl|⟨r,rfl⟩
  .rw[List.append_nil] at e;have:=dH h.srt hy;rw[<- e] at this;rw[this] at hbt;cases hbt
  .have h1:aJ b y.p=true:=by rw[<- e];exact lN hb
   have h2:=dH h.srt hy;have:=zFp h.par hb y.p.length y.p (Nat.le_refl _) (by rw[h2];rfl) h1;rw[this] at hbt;cases hbt
 have hnd:t.Pairwise λx y=>(sJ a b x).p≠(sJ a b y).p:=by
  refine(List.Pairwise.imp_of_mem ?_ h.srt);intro x y hx hy hlt;have hne:=lO hlt;unfold sJ;cases hmx:mvd a x<;>cases hmy:mvd a y
  .simp only[Bool.false_eq_true,if_false];intro e;rw[e] at hne;simp at hne
  .simp only[Bool.false_eq_true,if_false,if_true];obtain⟨s,e1,e2⟩:=jX ha hmy;intro e;rw[e1,List.drop_left] at e;exact hno x hx s e2 e.symm
  .simp only[Bool.false_eq_true,if_false,if_true];obtain⟨s,e1,e2⟩:=jX ha hmx;intro e;rw[e1,List.drop_left] at e;exact hno y hy s e2 e
  .simp only[if_true];obtain⟨s,e1,_⟩:=jX ha hmx;obtain⟨s',e2,_⟩:=jX ha hmy;intro e;rw[e1,e2,List.drop_left,List.drop_left,List.append_cancel_left_eq] at e;rw[e1,e2,e] at hne;simp at hne
 unfold KX;rw[List.map_map];exact List.pairwise_map.2 hnd
theorem BP(t:List It)(a:List UInt8):x∈cA t a↔x∈t/\mvd a x=false:=by
 rw[gE,List.mem_filter];unfold mvd;rw[Bool.not_eq_false']
theorem zL6{a b:List UInt8}(h:OkT t)(ha:a≠[])(hb:b≠[])(hbp:cI b=true)(hbt:(aN t b).isSome=false):
  fT a b (cA t a) t=if (KX t a b).all fB then (hD (KX t a b),0) else ([],12):=by
 have hshort:∀x∈t,fB x=true:=λx hx=>by
  have:=h.plen x hx;simp only[fB,Bool.not_eq_true',decide_eq_false_iff_not];omega
 cases hall:(KX t a b).all fB
 .rw[if_neg (by decide)];refine AQ t _ ?_;obtain⟨z,hz,hzs⟩:=List.all_eq_false.1 hall;obtain⟨x,hx,rfl⟩:=List.mem_map.1 hz;have hzs:fB (sJ a b x)=false:=by simpa using hzs
  unfold sJ at hzs;cases hm:mvd a x
  .rw[hm,if_neg (by decide),hshort x hx] at hzs;cases hzs
  .rw[hm,if_pos rfl] at hzs;exact⟨x,hx,hm,hzs⟩
 .rw [if_pos rfl];have h0:(fT a b (cA t a) t).2=0:=NX t _ λx hx hm=>by
   have:=List.all_eq_true.1 hall _ (List.mem_map_of_mem (f:=sJ a b) hx);unfold sJ at this;rw[hm,if_pos rfl] at this;exact this
  have hr:=h.toOkT0.remove a;obtain⟨k1,_⟩:=yG ha hb hbp h.its hr.srt hr.its h0;have k2:=zGb (AP h ha hb hbt);have key:(fT a b (cA t a) t).1=hD (KX t a b):=by
   refine GF k1 k2 λz=>?_;rw[(vZ _).mem_iff];constructor
   .intro hz;rcases tQ h0 hz with hz|⟨y,hy,hm,rfl⟩
    .obtain⟨h1,h2⟩:=(BP t a).1 hz;refine List.mem_map.2 ⟨z,h1,?_⟩;unfold sJ;rw[h2];rfl
    .refine List.mem_map.2 ⟨y,hy,?_⟩;unfold sJ;rw[hm];rfl
   .intro hz;obtain⟨y,hy,rfl⟩:=List.mem_map.1 hz;have got:∀q m,aN (fT a b (cA t a) t).1 q=some m->(⟨q,m⟩:It)∈(fT a b (cA t a) t).1:=λq m hg=>by
     obtain⟨x,hx,h1,h2⟩:=cL hg;rw[<- h1,<- h2];exact hx
    unfold sJ;cases hm:mvd a y
    .rw [if_neg (by decide)];refine got y.p y.n ?_;rw[pD ha h0 λx hx hmx e=>?_]
     .exact dH hr.srt ((BP t a).2 ⟨hy,hm⟩)
     .have hnd:=AP h ha hb hbt;unfold KX at hnd;rw[List.map_map] at hnd;have hxy:x≠y:=λe=>by rw[e,hm] at hmx;cases hmx
      have e1:(sJ a b x).p=(sJ a b y).p:=by unfold sJ;rw[hmx,hm];exact e
      exact hxy (zEo (f:=It.p ∘ sJ a b) hnd x hx y hy e1)
    .rw[if_pos rfl];exact got _ _ (tP ha hm h.srt h0 hy)
  exact Prod.ext key h0
end Go.Dm
namespace Go.Dm
open Go
end Go.Dm
end
section
namespace Go.Dm
open Go
def zNf(x:List It × Int):Prop:=(x.2=0->OkT x.1)/\(x.2≠0->x.1=[])
theorem zNf.len{x:List It × Int}(h:zNf x):x.1.length<=1000000:=by
 by_cases h0:x.2=0
 .exact Nat.le_trans (h.1 h0).len (by decide)
 .rw[h.2 h0];simp
end Go.Dm
end
