/- Part 12 of the proof of roomMerges_card, set without needless blanks. No condition. -/
import Derived.Shelf.SlSortCmp.InsertionK
import Derived.Sort.LotA
import Derived.Test.YtflcjdohmojepaaGreatDoorM10
set_option linter.all false
set_option maxRecDepth 100000
set_option maxHeartbeats 16000000
section
namespace Go.Dm
open Go Go.Proofs Go.Sort
section
variable {w:World}{S:Nat->Prop}{k bl off n:Nat}{es:List (List PV)}{ok:List PV->List Value->Prop}{arr:Array Value}{fz:Nat × Nat}{X:Ctx}{P:Program}{g:FuncId}
structure El (k:Nat) (ok:List PV->List Value->Prop) where
 v:List Value
 p:List PV
 hv:v.length=k
 hp:p.length=k
 h1:∀x∈v,x.oneCell'=true
 hk:ok p v
theorem zOL(hl:fP w S k bl off es)(hok:∀e∈es,∀v,bQ w S e v->ok e v):
  ∃d:List (El k ok),d.map (·.p)=es/\(∀x∈d,bQ w S x.p x.v)/\∀(i:Nat) (x:El k ok),d[i]?=some x->∀(j:Nat) (v:Value),x.v[j]?=some v->w.cell? ⟨bl,off+i*k+j,none⟩=some v:=by
 have key:∀i,i<es.length->∃x:El k ok,es[i]?=some x.p/\bQ w S x.p x.v/\∀(j:Nat) (v:Value),x.v[j]?=some v->w.cell? ⟨bl,off+i*k+j,none⟩=some v:=by
  intro i hi;obtain⟨h1,h2⟩:=hl.at_ (List.getElem?_eq_getElem hi);obtain⟨vs,h3,h4⟩:=h2.vals;exact⟨⟨vs,es[i],by rw[<- h3.length];exact h1,h1,h3.oneCell,hok _ (List.getElem_mem hi) _ h3⟩,List.getElem?_eq_getElem hi,h3,h4⟩
 obtain⟨d,h1,h2⟩:=sL es.length key;refine⟨d,List.ext_getElem? λi=>?_,λx hx=>?_,λi x hx=>(h2 i x hx).2.2⟩
 .rw[List.getElem?_map];rcases Nat.lt_or_ge i d.length with hi|hi
  .rw[List.getElem?_eq_getElem hi];exact((h2 i _ (List.getElem?_eq_getElem hi)).1).symm
  .rw[List.getElem?_eq_none hi,List.getElem?_eq_none (by omega)];rfl
 .obtain⟨i,hi⟩:=List.mem_iff_getElem?.1 hx;exact(h2 i x hi).2.1
theorem zBV[Inhabited (El k ok)]{d:List (El k ok)}{el:TypeId}(hb:w.heap[bl]?=some (.cells arr el fz))(hf:ZQ fz off arr.size)(hs:off+d.length*k<=arr.size)
 (hc:∀(i:Nat) (x:El k ok),d[i]?=some x->∀(j:Nat) (v:Value),x.v[j]?=some v->w.cell? ⟨bl,off+i*k+j,none⟩=some v):HoldsK El.v k w bl off d.toArray:=by
 intro t ht;have ht':t<d.length*k:=by simpa using ht
 have hk:0<k:=by rcases Nat.eq_zero_or_pos k with h|h;subst h;simp at ht';exact h
 have hi:t / k<d.length:=(Nat.div_lt_iff_lt_mul hk).2 ht';refine⟨?_,?_⟩
 .rw[get_flatK _ _ _ t (by simpa using ht')];have hx:d[t / k]?=some d[t / k]:=List.getElem?_eq_getElem hi;have hm:t % k<(d[t / k]).v.length:=by rw[(d[t / k]).hv];exact Nat.mod_lt _ hk
  have:=hc (t / k) _ hx (t % k) _ (List.getElem?_eq_getElem hm);rw[Nat.add_assoc,Nat.mul_comm,Nat.div_add_mod] at this;rw[this,getElem!_pos d.toArray (t / k) (by simpa using hi)];simp only[List.getElem_toArray,id];rw[getElem!_pos _ (t % k) hm]
 .have:=hf.at_ (off+t) (by omega) (by omega);simp only[World.frozen?,hb];simpa using this
theorem DR{α:Type}[Inhabited α]{enc:α->List Value}{d:Array α}{el:TypeId}(hb:w.heap[bl]?=some (.cells arr el fz)):Touched w (putRowK enc k (Sort.ahead w n) bl off d) bl where
 os:=rfl
 tape:=rfl
 output:=⟨rfl,Nat.le_add_right _ _⟩
 size:=by simp[putRowK]
 other:=λb hne=>by simp[putRowK,putRow,mapBlock,Array.getElem?_modify,Ne.symm hne]
 here:=.inl ⟨arr,el,fz,putCells id off (flatK enc k d) arr,el,fz,hb,by simp[putRowK,putRow,mapBlock,Array.getElem?_modify,hb,onCells],by simp[putCells]⟩
theorem YN[Inhabited (El k ok)]{d:List (El k ok)}(hk:0<k)(hH:HoldsK El.v k w bl off d.toArray)(hr:∀x∈d,bQ w S x.p x.v):fP w S k bl off (d.map (·.p)) :=
 fP.mk λj e hj=>by
  rw[List.getElem?_map] at hj;obtain⟨x,hx,rfl⟩:=Option.map_eq_some_iff.1 hj;refine⟨x.hp,gT.mk λc y hy=>?_⟩;obtain⟨v,hv,hrv⟩:=(hr x (List.mem_of_getElem? hx)).at_ hy;refine⟨v,?_,hrv⟩;have hc:c<k:=by have:=aK hy;rw[x.hp] at this;exact this
  have hjl:j<d.length:=aK hx;have hb:j*k+c<d.length*k:=by
   have:=Nat.mul_le_mul_right k (show j+1<=d.length from hjl)
   rw[Nat.add_mul,Nat.one_mul] at this;omega
  have h:=(hH (j*k+c) (by simpa using hb)).1;rw[get_flatK _ _ _ _ (by simpa using hb),Nat.mul_comm j k,Nat.mul_add_div hk,Nat.div_eq_of_lt hc,Nat.add_zero,Nat.mul_add_mod,Nat.mod_eq_of_lt hc] at h;rw[getElem!_pos d.toArray j (by simpa using hjl)] at h;have hxe:d[j]=x:=by rw[List.getElem?_eq_getElem hjl] at hx;exact Option.some.inj hx
  have hcv:c<x.v.length:=by rw[x.hv];exact hc
  simp only[List.getElem_toArray,id,hxe] at h;rw[getElem!_pos _ c hcv] at h;rw[show off+j*k+c=off+(k*j+c) by rw[Nat.mul_comm];omega,h]
  rw[List.getElem?_eq_getElem hcv] at hv;exact hv
def VT(lt:List PV->List PV->Bool)(x y:List PV):Bool:=!lt y x
theorem ZD{lt:List PV->List PV->Bool}(hS:SWO lt){es':List (List PV)}(hT:∀x∈es,∀y∈es,lt x y=false->lt y x=false->x=y)(hp:es'.Perm es)(hs:es'.Pairwise λx y=>lt y x=false):es'=es.mergeSort (VT lt):=by
 refine List.Perm.eq_of_pairwise (le:=λx y=>(VT lt x y)=true) ?_ ?_ ?_ (hp.trans (List.mergeSort_perm _ _).symm)
 .intro a b ha hb h1 h2;simp only[VT,Bool.not_eq_true'] at h1 h2;exact hT a (hp.mem_iff.1 ha) b (List.mem_mergeSort.1 hb) h2 h1
 .exact hs.imp λ{a b} h=>by simpa[VT] using h
 .refine List.pairwise_mergeSort ?_ ?_ _
  .intro a b c h1 h2;simp only[VT,Bool.not_eq_true'] at h1 h2 ⊢;exact hS.ntrans c b a h2 h1
  .intro a b;simp only[VT];cases h:lt b a with
   | false=>simp
   | true=>simp[hS.asymmA h]
theorem zGy{α:Type}[Inhabited α]{d d':Array α}(h:PermIn 0 d.size d d'):d'.toList.Perm d.toList:=by
 obtain⟨hsz,_,hperm⟩:=h;have e1:d'.extract 0 d.size=d':=by rw[<- hsz];exact Array.extract_size
 rw[e1,Array.extract_size] at hperm;exact hperm
theorem ZE{α:Type}[Inhabited α]{lt:α->α->Bool}{d:Array α}(hn:n=d.size)(h:SortedIn lt 0 n d):d.toList.Pairwise λx y=>lt y x=false:=by
 subst hn;rw[List.pairwise_iff_getElem];intro i j hi hj hij;have hi':i<d.size:=by simpa using hi
 have hj':j<d.size:=by simpa using hj
 have:=h i j (Nat.zero_le _) hij hj';rw[getElem!_pos d j hj',getElem!_pos d i hi'] at this;simpa using this
theorem ZO{a b:World}(h1:b.os=a.os)(h2:b.tape=a.tape)(h3:tM a b)(hs:a.heap.size<=b.heap.size)(hf:∀i,i<a.heap.size->b.heap[i]?=a.heap[i]?):∃q os',b=grow (a.drewN q) os':=by
 refine ⟨b.drawn-a.drawn,b.heap.extract a.heap.size b.heap.size,?_⟩;obtain⟨h3,h4⟩:=h3;have e:b.heap=a.heap++b.heap.extract a.heap.size b.heap.size:=by
  refine Array.ext_getElem? λi=>?_;rw[Array.getElem?_append];split
  .rename_i hi;exact hf i hi
  .rename_i hi;rw[Array.getElem?_extract];split
   .congr 1;omega
   .rename_i hi2;exact Array.getElem?_eq_none (by omega)
 have e2:a.drawn+(b.drawn-a.drawn)=b.drawn:=by omega
 cases a;cases b;simp only[grow,World.drewN] at *;subst h1 h2 h3;simp only[World.mk.injEq,true_and,and_true];exact⟨e,e2.symm⟩
theorem MA: ∀{ps:List PV} {vs:List Value},bQ X.w X.S ps vs->bF X (ps.map CV.p) vs
 | [],[],_=>trivial
 | _::_,_::_,h=>⟨h.1,MA h.2⟩
 | [],_::_,h=>h.elim
 | _::_,[],h=>h.elim
theorem zL4{cf:List PV->List PV->Int}{X1:Ctx}{a b:List PV}{va vb:List Value}(eg:∀args w,(callFunc g args).run P w=.ok (.enter g args) w)(hi:HInv X1)(gd:Gnd P X)(hst:Step X X1)
 (hc:aA P g [.agg (a.map CV.p),.agg (b.map CV.p)] [] λd h=>d=.c (.p (.i .i64 (cf a b)))/\h=[])(ha:bQ X.w X.S a va)(hb:bQ X.w X.S b vb):
  Calls P g #[.agg va.toArray,.agg vb.toArray] X1.w λe w'=>e=.returned (.int .i64 (cf a b))/\∃q os',w'=grow (X1.w.drewN q) os':=by
 have key:∀v w',Ret X1.bare (λd h=>d=.c (.p (.i .i64 (cf a b)))/\h=[]) v w'->v=.int .i64 (cf a b)/\∃q os',w'=grow (X1.w.drewN q) os':=by
  rintro v w' ⟨d,Z,rfl,_,h3,h4,rfl,_⟩;exact⟨h4,ZO h3.os h3.tape h3.output h3.size λi hi=>h3.frame i hi λid db g h=>by simp[Ctx.bare] at h⟩
 rcases hc X1.bare [.agg va.toArray,.agg vb.toArray] rfl hi.bare (show Gnd P X1 from gd.step hst) ⟨⟨va,rfl,MA (ha.kept hst.kept)⟩,⟨vb,rfl,MA (hb.kept hst.kept)⟩,trivial⟩ with⟨_,h2⟩|⟨v,w',h1,_⟩
 .exact h2.mono λe w' ⟨v,he,hv⟩=>by
   obtain⟨h5,h6⟩:=key v w' hv;exact⟨by rw[he,h5],h6⟩
 .have:=eg #[.agg va.toArray,.agg vb.toArray] X1.w;have h1':(callFunc g #[.agg va.toArray,.agg vb.toArray]).run P X1.w=.ok (.value v) w':=h1;rw[this] at h1';cases h1'
theorem lO{f:FuncId}(k:Nat)(hk0:0<k)(cf:List PV->List PV->Int)(hSW:SWO (ltOf cf))
 (hen:∀(vals:List Value) (w:World),(callFunc f vals.toArray).run P w=.ok (.enter f vals.toArray) w)
 (eg:∀args w,(callFunc g args).run P w=.ok (.enter g args) w)
 (hS:∀{α:Type} [Inhabited α] (enc:α->List Value) (_:∀x,(enc x).length=k) (_:∀x,∀v∈enc x,v.oneCell'=true) (c:α->α->Int) (_:SWO (ltOf c)) (blk off cap:Nat) (d:Array α) (w:World),
 CmpLays P g #[] enc k c blk off d.size w->HoldsK enc k w blk off d->blk<w.heap.size->d.size<4611686018427387904 ->
 Calls P f #[.slice (some ⟨blk,off,none⟩) d.size cap,.func (.func g) #[] #[]] w λe w'=>e=.returned (.tuple #[])/\∃(d':Array α) (n:Nat) (os:Array Obj),PermIn 0 d.size d d'/\SortedIn (ltOf c) 0 d.size d'/\w'=sortWorldK enc k w blk off n d' os)
 (hN:∀(p:Option Addr) (cap:Nat) (fv:Value) (w:World),Calls P f #[.slice p 0 cap,fv] w λe w'=>e=.returned (.tuple #[])/\w'=w)
 {h:aD}{i0:Nat}(hcl:∀x∈es,∀y∈es,aA P g [.agg (x.map CV.p),.agg (y.map CV.p)] [] λd h=>d=.c (.p (.i .i64 (cf x y)))/\h=[])
 (hT:∀x∈es,∀y∈es,ltOf cf x y=false->ltOf cf y x=false->x=y)
 (hid:h[i0]?=some (.arr k es false))(hsz:es.length<4611686018427387904):
  aA P f [.c (.own i0 0 es.length),.c (.clo g [])] h λd h'=>d=.tup []/\h'=h.set i0 (.arr k (es.mergeSort (VT (ltOf cf))) false):=by
 intro X vals hh hi gd hr;subst hh;obtain⟨v,rfl,hv⟩:∃v,vals=[v,.func (.func g) #[] #[]]/\bD X (.c (.own i0 0 es.length)) v:=by
  cases vals with
  | nil=>exact hr.elim
  | cons v vs=>cases vs with
   | nil=>exact hr.2.elim
   | cons u us=>cases us with
    | cons _ _=>exact hr.2.2.elim
    | nil =>
     obtain⟨cs,h2,h3⟩:=hr.2.1;cases cs with
     | nil=>exact⟨v,by rw[h2],hr.1⟩
     | cons _ _=>exact h3.elim
 refine .inl ⟨hen _ _,?_⟩;obtain⟨h1,h2,h3⟩:=hv;obtain⟨h4,h5⟩:=h3 _ _ _ hid;have hb:=hi.blk i0 _ hid;have e0:es=[]->X.h.set i0 (.arr k (es.mergeSort (VT (ltOf cf))) false)=X.h:=by
  rintro rfl;rw[List.mergeSort_nil];exact(List.getElem?_eq_some_iff.1 hid).elim λhlt he=>by rw[<- he];exact List.set_getElem_self hlt
 have fin0:es=[]->∀(p:Option Addr) (cap:Nat),v=.slice p 0 cap->Calls P f [v,.func (.func g) #[] #[]].toArray X.w λe w'=>∃v,e=.returned v/\Ret X (λd h'=>d=.tup []/\h'=X.h.set i0 (.arr k (es.mergeSort (VT (ltOf cf))) false)) v w':=by
  rintro hs p cap rfl;refine(hN p cap _ X.w).mono ?_;rintro e w' ⟨rfl,rfl⟩;exact⟨_,rfl,.tup [],X,rfl,hi,Step.refl hi,⟨[],rfl,True.intro⟩,rfl,(e0 hs).symm⟩
 cases hg:X.G i0 with
 | none =>
  rw [hg] at h5;simp only at h5;have hs:es=[]:=by
   rcases hb with hb|⟨g,_,_,_,hb,_⟩
   .exact hb.2
   .rw[hg] at hb;cases hb
  exact fin0 hs _ _ (by rw[h5])
 | some g' =>
  rw[hg] at h5;simp only at h5;obtain⟨cap,o,arr,el,fz,k1,k2,k3,k4,k5,k6⟩:=h5;by_cases hz:es.length=0
  .rw[hz] at k2;exact fin0 (List.length_eq_zero_iff.1 hz) _ _ k2
  .have ho:o=g'.2:=by
    rcases k3 with k3|k3
    .omega
    .simpa using k3
   subst ho;rcases hb with hb|⟨g'',arr',el',fz',b1,b2,b3,b4,b5⟩
   .rw[hg] at hb;cases hb.1
   rw[hg] at b1;cases b1;rw[k1] at b2;cases b2;obtain⟨d,d1,d2,d3⟩:=zOL (ok:=λp v=>p∈es/\bQ X.w X.S p v) b5 λe he v hr=>⟨he,hr⟩;have hdl:d.length=es.length:=by have:=congrArg List.length d1;simpa using this
   have hd0:d≠[]:=by rintro rfl;simp at hdl;omega
   haveI:Inhabited (El k λp v=>p∈es/\bQ X.w X.S p v):=⟨d.head hd0⟩
   have hH:=zBV k1 b4.1 (by rw[hdl];exact b3) d3;have hlt:g'.1<X.w.heap.size:=by
    rcases Nat.lt_or_ge g'.1 X.w.heap.size with hb|hb
    .exact hb
    .rw[Array.getElem?_eq_none hb] at k1;cases k1
   subst k2;have hstep:∀(n:Nat) (os:Array Obj) (d':List (El k λp v=>p∈es/\bQ X.w X.S p v)),d'.length=d.length ->
     ∃X1:Ctx,X1.w=sortWorldK El.v k X.w g'.1 g'.2 n d'.toArray os/\HInv X1/\Step X X1/\X1.h=X.h.set i0 (.arr k (d'.map (·.p)) false):=by
    intro n os d' hsl;have ht:=DR (enc:=El.v) (k:=k) (n:=n) (off:=g'.2) (d:=d'.toArray) k1;have hsb:cM (.arr k es false) (.arr k (d'.map (·.p)) false):=⟨rfl,by rw[List.length_map];omega⟩
    have hs1:=Step.put hi hid rfl rfl hg ht hsb rfl;have hbb:eC (X.put (putRowK El.v k (Sort.ahead X.w n) g'.1 g'.2 d'.toArray) i0 (.arr k (d'.map (·.p)) false)) i0 (.arr k (d'.map (·.p)) false):=by
     refine .inr ⟨g',putCells id g'.2 (flatK El.v k d'.toArray) arr,el,fz,hg,by simp[Ctx.put,putRowK,putRow,mapBlock,Array.getElem?_modify,k1,onCells],?_,?_,?_⟩
     .rw[List.length_map,hsl,hdl];simpa[putCells] using b3
     .simpa[putCells] using b4
     .refine YN hk0 ?_ λx hx=>?_
      .have:=holdsK_putRowK El.v k (Sort.ahead X.w n) g'.1 g'.2 d.toArray d'.toArray (holdsK_ahead El.v k X.w n g'.1 g'.2 d.toArray hH) (by simpa using hsl);exact this
      .exact x.hk.2.kept hs1.kept
    have hi1:=HInv.put hi hid rfl rfl hg ht hsb rfl hbb;exact⟨_,rfl,HInv.grew hi1 os,hs1.trans hi1 (Step.grew hi1 os),rfl⟩
   have hcmp:CmpLays P g #[] (El.v:El k (λp v=>p∈es/\bQ X.w X.S p v)->List Value) k (λx y=>cf x.p y.p) g'.1 g'.2 d.toArray.size X.w:=by
    intro m os dk hdk x y;obtain⟨X1,e1,i1,s1,_⟩:=hstep m os dk.toList (by simpa using hdk);have:=zL4 eg i1 gd s1 (hcl _ x.hk.1 _ y.hk.1) x.hk.2 y.hk.2;rw[e1] at this;simpa using this
   have hcl2:=hS El.v (λx=>x.hv) (λx=>x.h1) (λx y=>cf x.p y.p) ⟨λx=>hSW.irrefl _,λx y z=>hSW.trans _ _ _,λx y z=>hSW.ntrans _ _ _⟩ g'.1 g'.2 cap d.toArray X.w hcmp hH hlt (by simp;omega);have hsz2:d.toArray.size=es.length:=by simpa using hdl
   rw[hsz2] at hcl2;refine hcl2.mono ?_;rintro e w' ⟨rfl,d',n,os,p1,p2,rfl⟩;rw[<- hsz2] at p1;have p1':d'.toList.Perm d:=by simpa using zGy p1
   have hs':es.length=d'.size:=by rw[<- hdl,<- p1'.length_eq];simp
   have p2':=ZE hs' p2;have hst:d'.toList.map (·.p)=es.mergeSort (VT (ltOf cf)):=by
    refine ZD hSW hT (by have h7:=p1'.map (·.p);rw[d1] at h7;exact h7) ?_;exact List.Pairwise.map _ (λ_ _ h=>h) p2'
   rw[<- hst];obtain⟨X1,e1,i1,s1,hh1⟩:=hstep n os d'.toList p1'.length_eq;exact⟨_,rfl,.tup [],X1,by simpa using e1,i1,s1,⟨[],rfl,True.intro⟩,rfl,hh1⟩
end
section
variable {l:List Ch}{i:Nat}{c:Ch}{t:List It}{ks:List (List UInt8)}{x:It}
def leI(x y:It):Bool:=!cD y.p x.p
def gN(l:List It):List It:=l.mergeSort leI
def zJ5: List PV->List UInt8
 | .s p::_=>p
 | _=>[]
def zO5(x y:List PV):Bool:=cD (zJ5 x) (zJ5 y)
theorem zKD: SWO zO5 where
 irrefl _:=cF _
 trans _ _ _:=cL
 ntrans x y z h k:=by
  grind [zO5,cL,eI]
def cfI(x y:List PV):Int:=ED (zJ5 x) (zJ5 y)
theorem RG: ltOf cfI=zO5:=by
 funext x y
 exact pE
theorem ZF: SWO (ltOf cfI):=by grind [RG,zKD]
theorem NS{l:List It}(hu:∀x∈l,∀y∈l,x.p=y.p->x=y):∀x∈aS l,∀y∈aS l,ltOf cfI x y=false->ltOf cfI y x=false->x=y:=by
 rw[RG];intro x hx y hy h k;obtain⟨a,ha,rfl⟩:=List.mem_map.1 hx;obtain⟨b,hb,rfl⟩:=List.mem_map.1 hy;rw[hu a ha b hb (eI h k)]
theorem PZ(l:List It):(aS l).mergeSort (VT (ltOf cfI))=aS (gN l):=by
 rw[RG];exact(List.map_mergeSort (r:=leI) (s:=VT zO5) (f:=It.cs) (l:=l) λa _ b _=>rfl).symm
theorem rP(l:List It):(gN l).Perm l:=List.mergeSort_perm _ _
theorem DP(l:List It):(gN l).length=l.length:=List.length_mergeSort ..
theorem TX(l:List It):(gN l).Pairwise λx y=>cD y.p x.p=false:=by grind [gN,leI,List.pairwise_mergeSort,cL,eI,eS]
theorem TY{l:List It}(hn:(l.map It.p).Nodup):Srt (gN l):=by
 have hn2:((gN l).map It.p).Nodup:=(((rP l).map It.p).nodup_iff).2 hn;have h1:=TX l;have h2:(gN l).Pairwise λx y=>x.p≠y.p:=List.pairwise_map.1 hn2;exact(h1.and h2).imp λ{a b} ⟨h,k⟩=>by
  cases e:cD a.p b.p with
  | true=>rfl
  | false=>exact absurd (eI e h) k
def uH(t:List It)(c:Ch):Bool:=if c.k==1 then !(aM t c.p).isSome else (aM t c.p).isSome && mT ((aM t c.p).getD nd0) c.o
def yL(c:Ch):List It:=if c.k != 2 then [⟨c.p,c.n⟩] else []
def yM(l:List Ch):List It:=l.flatMap yL
def MD(ks:List (List UInt8))(x:It):List It:=if !(ks.contains x.p) then [x] else []
def wR(t:List It)(ks:List (List UInt8)):List It:=t.flatMap (MD ks)
def rT(l:List Ch):List (List UInt8):=(l.map Ch.p).reverse
def LP(t:List It)(l:List Ch):List It:=yM l++wR t (rT l)
def fH(t:List It)(l:List Ch):List It × Int :=
 if !gA l then ([],1) else if !(l.all (uH t)) then ([],17)
 else if decide ((120:Int)<((gN (LP t l)).length:Int)) then ([],16) else if !kT (gN (LP t l)) then ([],17) else (gN (LP t l),0)
theorem zCa(h:l[i]?=some c):yM (l.take (i+1))=yM (l.take i)++yL c:=by grind [yM,List.take_add_one]
theorem zB3(h:l[i]?=some c):rT (l.take (i+1))=c.p::rT (l.take i):=by grind [rT,List.take_add_one]
theorem zCz(h:t[i]?=some x):wR (t.take (i+1)) ks=wR (t.take i) ks++MD ks x:=by grind [wR,List.take_add_one]
theorem zF7(c:Ch):(yL c).length<=1:=by grind [yL]
theorem zGQ(ks:List (List UInt8))(x:It):(MD ks x).length<=1:=by grind [MD]
theorem zF8(l:List Ch):(yM l).length<=l.length:=by
 induction l<;>grind [yM,zF7]
theorem zGR(t:List It)(ks:List (List UInt8)):(wR t ks).length<=t.length:=by
 induction t<;>grind [wR,zGQ]
theorem zJL(h:x∈yM l):∃c∈l,x=⟨c.p,c.n⟩:=by
 obtain⟨c,hc,hx⟩:=List.mem_flatMap.1 h;grind [yL]
theorem LI(h:x∈wR t ks):x∈t/\ks.contains x.p=false:=by
 obtain⟨c,hc,hx⟩:=List.mem_flatMap.1 h;grind [MD]
theorem vB: ∀{l:List Ch} {q:Option (List UInt8)},dW q l=true->l.Pairwise (λx y=>cD x.p y.p=true)/\∀p,q=some p->∀c∈l,cD p c.p=true
 | [],q,_=>by simp_all
 | d::l,q,h=>by
  rw[dW,Bool.and_eq_true,Bool.and_eq_true] at h;have ih:=vB (l:=l) h.2;grind [List.pairwise_cons.2,lX,cL]
theorem pO{α β:Type}{f:α->β}:∀{l:List α},(l.map f).Nodup->∀x∈l,∀y∈l,f x=f y->x=y
 | [],_,x,hx,_,_,_=>by grind
 | a::l,h,x,hx,y,hy,e=>by
  rw[List.map_cons,List.nodup_cons] at h;have hx':=List.mem_cons.1 hx;have hy':=List.mem_cons.1 hy;rcases hx' with rfl|hx<;>rcases hy' with rfl|hy
  .rfl
  .grind
  .simp_all
  .exact pO h.2 x hx y hy e
theorem LM: ∀l:List Ch,((yM l).map It.p).Sublist (l.map Ch.p)
 | []=>List.Sublist.slnil
 | c::l=>by
  have ih:=LM l;simp only[yM,List.flatMap_cons,List.map_append,List.map_cons] at ih ⊢;grind [yL]
theorem zAT(ks:List (List UInt8)):∀t:List It,(wR t ks).Sublist t
 | []=>List.Sublist.slnil
 | c::l=>by
  have ih:=zAT ks l;grind [wR,MD]
theorem GS(ht:Srt t)(h:gA l=true):((LP t l).map It.p).Nodup:=by
 have h1:=(vB h).1;have n1:(l.map Ch.p).Nodup:=List.pairwise_map.2 (h1.imp λ{a b} h e=>by have:=jH h;rw[e] at this;simp at this)
 have n2:(t.map It.p).Nodup:=List.pairwise_map.2 (ht.imp λ{a b} h e=>by have:=jH h;rw[e] at this;simp at this)
 unfold LP;rw[List.map_append];refine List.nodup_append.2 ⟨(LM l).nodup n1,((zAT _ t).map _).nodup n2,λp hp q hq e=>?_⟩;obtain⟨x,hx,rfl⟩:=List.mem_map.1 hq;obtain⟨_,hk⟩:=LI hx;grind [LM,rT]
theorem zJZ(ht:Srt t)(h:gA l=true):∀x∈LP t l,∀y∈LP t l,x.p=y.p->x=y:=pO (GS ht h)
theorem zJ0{t:List It}{l:List Ch}(ht:Srt t)(h:gA l=true):Srt (gN (LP t l)):=TY (GS ht h)
theorem zFU(h:x∈gN (LP t l)):(∃c∈l,x=⟨c.p,c.n⟩)∨x∈t:=by
 have h:=(rP _).mem_iff.1 h;rcases List.mem_append.1 h with h|h
 .grind [zJL]
 .exact .inr (LI h).1
end
theorem zLC{s:List It}(hs:Srt s):s.Nodup:=hs.imp λ{a b} h e=>by subst e;rw[cF] at h;cases h
theorem xA{s t:List It}(hs:Srt s)(ht:Srt t)(h:∀x,x∈s↔x∈t):s=t :=
 List.Perm.eq_of_pairwise (le:=λ(x y:It)=>cD x.p y.p=true) (λ_ _ _ _ h k=>by rw[eS h] at k;cases k) hs ht ((List.perm_ext_iff_of_nodup (zLC hs) (zLC ht)).2 h)
def GG(a b:List It)(p:List UInt8):Int:=lG (aM a p).isSome (aM b p).isSome ((aM a p).getD nd0) ((aM b p).getD nd0)
theorem zAg{a b:List It}{x:It}(hx:x∈a∨x∈b)(hk:GG a b x.p≠0):∃c∈bT a b,c.p=x.p :=
 ZX (rJ.2 (hx.imp (λh=>⟨x,h,rfl⟩) λh=>⟨x,h,rfl⟩)) hk
theorem zAz{l:List Ch}{p:List UInt8}:(rT l).contains p=true↔∃c∈l,c.p=p:=by
 simp[rT]
theorem RJ{l:List Ch}{x:It}:x∈yM l↔∃c∈l,c.k≠2/\x=⟨c.p,c.n⟩:=by
 unfold yM;rw[List.mem_flatMap];constructor
 .rintro⟨c,hc,hx⟩;unfold yL at hx;split at hx
  .rename_i hk;exact⟨c,hc,by simpa using hk,by simpa using hx⟩
  .simp at hx
 .rintro⟨c,hc,hk,rfl⟩;refine⟨c,hc,?_⟩;unfold yL;rw[if_pos (by simpa using hk)];exact List.mem_singleton.2 rfl
theorem RM{t:List It}{ks:List (List UInt8)}{x:It}:x∈wR t ks↔x∈t/\ks.contains x.p=false:=by
 refine⟨LI,λ⟨h1,h2⟩=>List.mem_flatMap.2 ⟨x,h1,?_⟩⟩;unfold MD;rw[h2,if_pos (by decide)];exact List.mem_singleton.2 rfl
theorem zAq(x:It):(⟨x.p,x.n⟩:It)=x:=rfl
theorem zNa{a b:List It}(ha:OkT a)(hb:OkT b)(x:It):x∈LP a (bT a b)↔x∈b:=by
 unfold LP;rw[List.mem_append,RJ,RM];constructor
 .rintro (⟨c,hc,hk,rfl⟩|⟨h1,h2⟩)
  .obtain ⟨g1,g2⟩:=pH hc;obtain⟨_,g3⟩:=fI hc;cases hg:aM b c.p with
   | none =>
    rw[hg] at g1 g2;exfalso;unfold lG at g1 g2;cases hp:(aM a c.p).isSome<;>rw[hp] at g1 g2<;>simp_all
   | some n =>
    obtain⟨y,hy,hyp,hyn⟩:=cB hg;rw[hg] at g3;have:(⟨c.p,c.n⟩:It)=y:=by rw[g3,<- hyp];simp only[Option.getD_some,<- hyn]
    rw[this];exact hy
  .have hga:=cP ha.srt h1;have hk0:GG a b x.p=0:=by
    cases h:decide (GG a b x.p=0) with
    | true=>exact of_decide_eq_true h
    | false =>
     obtain⟨c,hc,he⟩:=zAg (.inl h1) (of_decide_eq_false h);have:=zAz.2 ⟨c,hc,he⟩;rw[h2] at this;cases this
   unfold GG lG at hk0;rw[hga] at hk0;cases hg:aM b x.p with
   | none=>rw[hg] at hk0;simp at hk0
   | some n =>
    rw[hg] at hk0;simp only[Option.isSome_some,if_true,Option.getD_some] at hk0;obtain⟨y,hy,hyp,hyn⟩:=cB hg;cases hs:mT x.n n with
    | false =>
     rw[hs] at hk0;simp only[Bool.false_eq_true,if_false] at hk0;split at hk0
     .cases hk0
     .split at hk0<;>cases hk0
    | true =>
     have e:=wG (ha.plain x h1) (hyn▸hb.plain y hy) hs;have:x=y:=by
      rw[<- zAq x,<- zAq y,hyp,hyn,<- e]
     rw[this];exact hy
 .intro hx;have hgb:=cP hb.srt hx;cases h:decide (GG a b x.p=0) with
  | false =>
   obtain⟨c,hc,he⟩:=zAg (.inr hx) (of_decide_eq_false h);obtain⟨g1,g2⟩:=pH hc;obtain⟨_,g3⟩:=fI hc;rw[he,hgb] at g1 g3;refine .inl ⟨c,hc,?_,?_⟩
   .rw [g1];unfold lG;simp only[Option.isSome_some,if_true];split
    .split
     .decide
     .split
      .decide
      .split<;>decide
    .decide
   .rw[he,g3];rfl
  | true =>
   have hk0:=of_decide_eq_true h;have hno:(rT (bT a b)).contains x.p=false:=by
    rw[Bool.eq_false_iff];intro hk;obtain⟨c,hc,he⟩:=zAz.1 hk;have:=(pH hc).2;rw[he] at this;exact this hk0
   refine .inr ⟨?_,hno⟩;unfold GG lG at hk0;rw[hgb] at hk0;cases hg:aM a x.p with
   | none=>rw[hg] at hk0;simp at hk0
   | some n =>
    rw[hg] at hk0;simp only[Option.isSome_some,if_true,Option.getD_some] at hk0;obtain⟨y,hy,hyp,hyn⟩:=cB hg;cases hs:mT n x.n with
    | false =>
     rw[hs] at hk0;simp only[Bool.false_eq_true,if_false] at hk0;split at hk0
     .cases hk0
     .split at hk0<;>cases hk0
    | true =>
     have e:=wG (hyn▸ha.plain y hy) (hb.plain x hx) hs;have:x=y:=by rw[<- zAq x,<- zAq y,hyp,hyn,e]
     rw[this];exact hy
theorem zE9{a b:List It}(ha:OkT a){c:Ch}(hc:c∈bT a b):uH a c=true:=by
 obtain⟨g1,g2⟩:=pH hc;obtain⟨g3,_⟩:=fI hc;unfold uH;rw[g3,sV (ha.gett _),Bool.and_true];unfold lG at g1 g2;cases hp:(aM a c.p).isSome
 .rw[hp] at g1 g2;simp only[Bool.false_eq_true,if_false] at g1 g2;split at g2
  .rename_i hq;rw[if_pos hq] at g1;rw[g1];rfl
  .exact absurd rfl g2
 .rw [hp] at g1;have:(c.k==1)=false:=by
   rw[g1];simp only[if_true];split
   .split
    .rfl
    .split
     .rfl
     .split<;>rfl
   .rfl
  rw[this];rfl
theorem zBe{a b:List It}(ha:OkT a)(hb:OkT b):fH a (bT a b)=(b,0):=by
 have hr:=KA ha hb;have ho:gN (LP a (bT a b))=b:=xA (zJ0 ha.srt hr) hb.srt λx=>((rP _).mem_iff).trans (zNa ha hb x);unfold fH;rw[hr,if_neg (by decide),List.all_eq_true.2 (λc hc=>zE9 ha hc),if_neg (by decide),ho,if_neg (by have:=hb.len;simp;omega),SX hb,if_neg (by decide)]
end Go.Dm
end
