/- Part 10 of roomPlays_card. No condition. -/
import Derived.Shelf.SlSortCmp.InsertionK
import Derived.Sort.LotA
import Derived.Test.YtfcindonokhbeaaGreatDoorP08
set_option linter.all false
set_option maxRecDepth 100000
set_option maxHeartbeats 0
section
namespace Go.Dm
open Go Go.Proofs Go.Sort
section
variable {w:World}{S:Nat->Prop}{k bl off n:Nat}{es:Bc}{ok:List PV->Bb->Prop}{arr:Array Value}{fz:Nat × Nat}{X:Ctx}{P:Program}{g:FuncId}
structure El (k:Nat) (ok:List PV->Bb->Prop) where
 v:Bb
 p:List PV
 hv:v.length=k
 hp:p.length=k
 h1:∀x∈v,x.oneCell'=true
 hk:ok p v
theorem zRS(o:hD w S k bl off es)(b:∀e∈es,∀v,bV w S e v->ok e v):
  ∃d:List (El k ok),d.map (·.p)=es/\(∀x∈d,bV w S x.p x.v)/\∀(i:Nat) (x:El k ok),d[i]?=some x->∀(j:Nat) (v:Value),x.v[j]?=some v->w.cell? ⟨bl,off+i*k+j,none⟩=some v:=by
 have c:∀i,i<es.length->∃x:El k ok,es[i]?=some x.p/\bV w S x.p x.v/\∀(j:Nat) (v:Value),x.v[j]?=some v->w.cell? ⟨bl,off+i*k+j,none⟩=some v:=by
  intro i f;obtain⟨h,l⟩:=o.at_ (ay f);obtain⟨q,a,r⟩:=l.vals;exact⟨⟨q,es[i],by rw[<- a.length];exact h,h,a.oneCell,b _ (ch f) _ a⟩,ay f,a,r⟩
 obtain⟨d,h,l⟩:=vK es.length c;refine⟨d,ir λi=>?_,λx m=>?_,λi x m=>(l i x m).2.2⟩
 .grind
 .grind [List.mem_iff_getElem?.1]
theorem zDP[Inhabited (El k ok)]{d:List (El k ok)}{c:TypeId}(f:w.heap[bl]?=some (.cells arr c fz))(e:zBN fz off arr.size)(h:off+d.length*k<=arr.size)
 (l:∀(i:Nat) (x:El k ok),d[i]?=some x->∀(j:Nat) (v:Value),x.v[j]?=some v->w.cell? ⟨bl,off+i*k+j,none⟩=some v):HoldsK El.v k w bl off d.toArray:=by
 intro t m;have a:t<d.length*k:=qw
 have b:0<k:=by grind
 have o:t / k<d.length:=(Nat.div_lt_iff_lt_mul b).2 a;refine⟨?_,?_⟩
 .rw[get_flatK _ _ _ t (by simpa using a)];have p:t % k<(d[t / k]).v.length:=by rw[(d[t / k]).hv];exact Nat.mod_lt _ b
  grind [Nat.div_add_mod]
 .have:=e.at_ (off+t) qd qd;grind [World.frozen?]
theorem HG{α:Type}[Inhabited α]{enc:α->Bb}{d:Array α}{a:TypeId}(e:w.heap[bl]?=some (.cells arr a fz)):Touched w (putRowK enc k (Sort.ahead w n) bl off d) bl where
 os:=rfl
 tape:=rfl
 output:=⟨rfl,nz _ _⟩
 size:=by simp[putRowK]
 other:=λb c=>by simp[putRowK,putRow,mapBlock,ia,Ne.symm c]
 here:=.inl ⟨arr,a,fz,putCells id off (flatK enc k d) arr,a,fz,e,by simp[putRowK,putRow,mapBlock,ia,e,onCells],by simp[putCells]⟩
theorem zBn[Inhabited (El k ok)]{d:List (El k ok)}(t:0<k)(u:HoldsK El.v k w bl off d.toArray)(z:∀x∈d,bV w S x.p x.v):hD w S k bl off (d.map (·.p)) :=
 hD.mk λj e q=>by
  rw[dv] at q;obtain⟨x,f,rfl⟩:=du.1 q;refine⟨x.hp,jC.mk λc y r=>?_⟩;obtain⟨v,i,l⟩:=(z x (dr f)).at_ r;refine⟨v,?_,l⟩;have m:c<k:=by have:=aR r;rw[x.hp] at this;exact this
  have a:j<d.length:=aR f;have s:j*k+c<d.length*k:=by
   have:=gr k (show j+1<=d.length from a)
   rw[ez,iy] at this;omega
  have h:=(u (j*k+c) (by simpa using s)).1;rw[get_flatK _ _ _ _ (by simpa using s),Nat.mul_comm j k,Nat.mul_add_div t,Nat.div_eq_of_lt m,je,Nat.mul_add_mod,Nat.mod_eq_of_lt m] at h;rw[nq d.toArray j (by simpa using a)] at h;have o:d[j]=x:=by rw[ay a] at f;exact fx f
  have b:c<x.v.length:=by rw[x.hv];exact m
  simp only[List.getElem_toArray,id,o] at h;rw[nq _ c b] at h;rw[show off+j*k+c=off+(k*j+c) by rw[Nat.mul_comm];omega,h]
  rw[ay b] at i;exact i
def zAb(lt:List PV->List PV->Bool)(x y:List PV):Bool:=!lt y x
theorem zBB{lt:List PV->List PV->Bool}(e:SWO lt){d:Bc}(l:∀x∈es,∀y∈es,lt x y=false->lt y x=false->x=y)(j:d.Perm es)(m:d.Pairwise λx y=>lt y x=false):d=es.mergeSort (zAb lt):=by
 refine oa (le:=λx y=>(zAb lt x y)=true) ?_ ?_ ?_ (j.trans (l4 _ _).symm)
 .grind [zAb,List.mem_mergeSort.1]
 .grind [zAb]
 .refine np ?_ ?_ _
  .intro a b c f i;simp only[zAb,dg] at f i ⊢;exact e.ntrans c b a i f
  .intro a b;simp only[zAb];cases h:lt b a with
   | false=>simp
   | true=>simp[e.asymmA h]
theorem zIL{α:Type}[Inhabited α]{d d':Array α}(h:PermIn 0 d.size d d'):d'.toList.Perm d.toList:=by
 obtain⟨b,_,a⟩:=h;grind [Array.extract_size]
theorem zBC{α:Type}[Inhabited α]{lt:α->α->Bool}{d:Array α}(c:n=d.size)(h:SortedIn lt 0 n d):d.toList.Pairwise λx y=>lt y x=false:=by
 subst c;rw[gg];intro i j f l a;have e:i<d.size:=qd
 have b:j<d.size:=qd
 have:=h i j (bc _) a b;simp_all
theorem zBJ{a b:World}(h1:b.os=a.os)(d:b.tape=a.tape)(c:wP a b)(h:a.heap.size<=b.heap.size)(j:∀i,i<a.heap.size->b.heap[i]?=a.heap[i]?):∃q os',b=grow (a.drewN q) os':=by
 refine ⟨b.drawn-a.drawn,b.heap.extract a.heap.size b.heap.size,?_⟩;obtain⟨c,l⟩:=c;have e:b.heap=a.heap++b.heap.extract a.heap.size b.heap.size:=by
  grind
 have f:a.drawn+(b.drawn-a.drawn)=b.drawn:=qd
 cases a;cases b;simp only[grow,World.drewN] at *;subst h1 d c;simp only[World.mk.injEq,i6,jw];exact⟨e,f.symm⟩
theorem RA: ∀{ps:List PV} {vs:Bb},bV X.w X.S ps vs->bP X (ps.map CV.p) vs
 | [],[],_=>trivial
 | _::_,_::_,h=>⟨h.1,RA h.2⟩
 | [],_::_,h=>h.elim
 | _::_,[],h=>h.elim
theorem zOT{r:List PV->List PV->Int}{f:Ctx}{a b:List PV}{l vb:Bb}(t:∀args w,(callFunc g args).run P w=.ok (.enter g args) w)(hi:HInv f)(u:Gnd P X)(j:Step X f)
 (x:aA P g [.agg (a.map CV.p),.agg (b.map CV.p)] [] λd h=>d=.c (.p (.i .i64 (r a b)))/\h=[])(y:bV X.w X.S a l)(z:bV X.w X.S b vb):
  Calls P g #[.agg l.toArray,.agg vb.toArray] f.w λe w'=>e=.returned (.int .i64 (r a b))/\∃q os',w'=grow (f.w.drewN q) os':=by
 have s:∀v w',Ret f.bare (λd h=>d=.c (.p (.i .i64 (r a b)))/\h=[]) v w'->v=.int .i64 (r a b)/\∃q os',w'=grow (f.w.drewN q) os':=by
  rintro v w' ⟨d,Z,rfl,_,m,A,rfl,_⟩;exact⟨A,zBJ m.os m.tape m.output m.size λi hi=>m.frame i hi λid H g h=>by simp[Ctx.bare] at h⟩
 rcases x f.bare [.agg l.toArray,.agg vb.toArray] rfl hi.bare (show Gnd P f from u.step j) ⟨⟨l,rfl,RA (y.kept j.kept)⟩,⟨vb,rfl,RA (z.kept j.kept)⟩,trivial⟩ with⟨_,B⟩|⟨v,w',C,_⟩
 .exact B.mono λe w' ⟨v,D,E⟩=>by
   obtain⟨F,G⟩:=s v w' E;exact⟨by rw[D,F],G⟩
 .have:=t #[.agg l.toArray,.agg vb.toArray] f.w;have o:(callFunc g #[.agg l.toArray,.agg vb.toArray]).run P f.w=.ok (.value v) w':=C;rw[this] at o;cases o
theorem nV{f:FuncId}(k:Nat)(R:0<k)(q:List PV->List PV->Int)(r:SWO (ltOf q))
 (T:∀(vals:Bb) (w:World),(callFunc f vals.toArray).run P w=.ok (.enter f vals.toArray) w)
 (eg:∀args w,(callFunc g args).run P w=.ok (.enter g args) w)
 (hS:∀{α:Type} [Inhabited α] (enc:α->Bb) (_:∀x,(enc x).length=k) (_:∀x,∀v∈enc x,v.oneCell'=true) (c:α->α->Int) (_:SWO (ltOf c)) (blk off cap:Nat) (d:Array α) (w:World),
 CmpLays P g #[] enc k c blk off d.size w->HoldsK enc k w blk off d->blk<w.heap.size->d.size<4611686018427387904 ->
 Calls P f #[.slice (some ⟨blk,off,none⟩) d.size cap,.func (.func g) #[] #[]] w λe w'=>e=.returned (.tuple #[])/\∃(d':Array α) (n:Nat) (os:Array Obj),PermIn 0 d.size d d'/\SortedIn (ltOf c) 0 d.size d'/\w'=sortWorldK enc k w blk off n d' os)
 (hN:∀(p:Option Addr) (cap:Nat) (fv:Value) (w:World),Calls P f #[.slice p 0 cap,fv] w λe w'=>e=.returned (.tuple #[])/\w'=w)
 {h:aF}{i0:Nat}(U:∀x∈es,∀y∈es,aA P g [.agg (x.map CV.p),.agg (y.map CV.p)] [] λd h=>d=.c (.p (.i .i64 (q x y)))/\h=[])
 (hT:∀x∈es,∀y∈es,ltOf q x y=false->ltOf q y x=false->x=y)
 (hid:h[i0]?=some (.arr k es false))(hsz:es.length<4611686018427387904):
  aA P f [.c (.own i0 0 es.length),.c (.clo g [])] h λd V=>d=.tup []/\V=h.set i0 (.arr k (es.mergeSort (zAb (ltOf q))) false):=by
 intro X vals hh K gd C;subst hh;obtain⟨v,rfl,hv⟩:∃v,vals=[v,.func (.func g) #[] #[]]/\bH X (.c (.own i0 0 es.length)) v:=by
  cases vals with
  | nil=>exact C.elim
  | cons v vs=>cases vs with
   | nil=>exact C.2.elim
   | cons u us=>cases us with
    | cons _ _=>exact C.2.2.elim
    | nil =>
     obtain⟨cs,h2,W⟩:=C.2.1;cases cs with
     | nil=>exact⟨v,by rw[h2],C.1⟩
     | cons _ _=>exact W.elim
 refine .inl ⟨T _ _,?_⟩;obtain⟨h1,h2,W⟩:=hv;obtain⟨h4,I⟩:=W _ _ _ hid;have b:=K.blk i0 _ hid;have e0:es=[]->X.h.set i0 (.arr k (es.mergeSort (zAb (ltOf q))) false)=X.h:=by
  rintro rfl;rw[o5];exact(bz.1 hid).elim λD Y=>by rw[<- Y];exact kj D
 have s:es=[]->∀(p:Option Addr) (cap:Nat),v=.slice p 0 cap->Calls P f [v,.func (.func g) #[] #[]].toArray X.w λe w'=>∃v,e=.returned v/\Ret X (λd V=>d=.tup []/\V=X.h.set i0 (.arr k (es.mergeSort (zAb (ltOf q))) false)) v w':=by
  rintro Z p cap rfl;refine(hN p cap _ X.w).mono ?_;rintro e w' ⟨rfl,rfl⟩;exact⟨_,rfl,.tup [],X,rfl,K,Step.refl K,⟨[],rfl,True.intro⟩,rfl,(e0 Z).symm⟩
 cases t:X.G i0 with
 | none =>
  rw [t] at I;simp only at I;have Z:es=[]:=by
   rcases b with b|⟨g,_,_,_,b,_⟩
   .exact b.2
   .rw[t] at b;cases b
  exact s Z _ _ (by rw[I])
 | some a =>
  rw[t] at I;simp only at I;obtain⟨cap,o,arr,el,fz,J,k2,Q,k4,k5,k6⟩:=I;by_cases hz:es.length=0
  .rw[hz] at k2;exact s (j8.1 hz) _ _ k2
  .have ho:o=a.2:=by
    rcases Q with Q|Q
    .omega
    .simpa using Q
   subst ho;rcases b with b|⟨g'',arr',el',fz',b1,b2,b3,b4,b5⟩
   .rw[t] at b;cases b.1
   rw[t] at b1;cases b1;rw[J] at b2;cases b2;obtain⟨d,d1,d2,d3⟩:=zRS (ok:=λp v=>p∈es/\bV X.w X.S p v) b5 λe Y v C=>⟨Y,C⟩;have j:d.length=es.length:=by have:=congrArg List.length d1;simpa using this
   have hd0:d≠[]:=by rintro rfl;simp at j;omega
   haveI:Inhabited (El k λp v=>p∈es/\bV X.w X.S p v):=⟨d.head hd0⟩
   have hH:=zDP J b4.1 (by rw[j];exact b3) d3;have D:a.1<X.w.heap.size:=by
    rcases cc a.1 X.w.heap.size with b|b
    .exact b
    .rw[jx b] at J;cases J
   subst k2;have l:∀(n:Nat) (os:Array Obj) (d':List (El k λp v=>p∈es/\bV X.w X.S p v)),d'.length=d.length ->
     ∃E:Ctx,E.w=sortWorldK El.v k X.w a.1 a.2 n d'.toArray os/\HInv E/\Step X E/\E.h=X.h.set i0 (.arr k (d'.map (·.p)) false):=by
    intro n os d' L;have ht:=HG (enc:=El.v) (k:=k) (n:=n) (off:=a.2) (d:=d'.toArray) J;have M:cX (.arr k es false) (.arr k (d'.map (·.p)) false):=⟨rfl,by rw[di];omega⟩
    have N:=Step.put K hid rfl rfl t ht M rfl;have hbb:fI (X.put (putRowK El.v k (Sort.ahead X.w n) a.1 a.2 d'.toArray) i0 (.arr k (d'.map (·.p)) false)) i0 (.arr k (d'.map (·.p)) false):=by
     refine .inr ⟨a,putCells id a.2 (flatK El.v k d'.toArray) arr,el,fz,t,by simp[Ctx.put,putRowK,putRow,mapBlock,ia,J,onCells],?_,?_,?_⟩
     .rw[di,L,j];simpa[putCells] using b3
     .simpa[putCells] using b4
     .refine zBn R ?_ λx hx=>?_
      .have:=holdsK_putRowK El.v k (Sort.ahead X.w n) a.1 a.2 d.toArray d'.toArray (holdsK_ahead El.v k X.w n a.1 a.2 d.toArray hH) (by simpa using L);exact this
      .exact x.hk.2.kept N.kept
    have F:=HInv.put K hid rfl rfl t ht M rfl hbb;exact⟨_,rfl,HInv.grew F os,N.trans F (Step.grew F os),rfl⟩
   have O:CmpLays P g #[] (El.v:El k (λp v=>p∈es/\bV X.w X.S p v)->Bb) k (λx y=>q x.p y.p) a.1 a.2 d.toArray.size X.w:=by
    intro m os dk hdk x y;obtain⟨E,e1,i1,s1,_⟩:=l m os dk.toList (by simpa using hdk);have:=zOT eg i1 gd s1 (U _ x.hk.1 _ y.hk.1) x.hk.2 y.hk.2;rw[e1] at this;simpa using this
   have A:=hS El.v (λx=>x.hv) (λx=>x.h1) (λx y=>q x.p y.p) ⟨λx=>r.irrefl _,λx y z=>r.trans _ _ _,λx y z=>r.ntrans _ _ _⟩ a.1 a.2 cap d.toArray X.w O hH D qk;have B:d.toArray.size=es.length:=by simpa using j
   rw[B] at A;refine A.mono ?_;rintro e w' ⟨rfl,d',n,os,p1,p2,rfl⟩;rw[<- B] at p1;have H:d'.toList.Perm d:=by simpa using zIL p1
   have hs':es.length=d'.size:=by rw[<- j,<- H.length_eq];simp
   have p2':=zBC hs' p2;have hst:d'.toList.map (·.p)=es.mergeSort (zAb (ltOf q)):=by
    refine zBB r hT (by have h7:=H.map (·.p);rw[d1] at h7;exact h7) ?_;exact List.Pairwise.map _ (λ_ _ h=>h) p2'
   rw[<- hst];obtain⟨E,e1,i1,s1,hh1⟩:=l n os d'.toList H.length_eq;exact⟨_,rfl,.tup [],E,by simpa using e1,i1,s1,⟨[],rfl,True.intro⟩,rfl,hh1⟩
end
section
variable {l:Bh}{i:Nat}{c:Ch}{t:Bl}{ks:List Ba}{x:It}
def leI(x y:It):Bool:=!cC y.p x.p
def iW(l:Bl):Bl:=l.mergeSort leI
def zMK: List PV->Ba
 | .s p::_=>p
 | _=>[]
def zSe(x y:List PV):Bool:=cC (zMK x) (zMK y)
theorem zNp: SWO zSe where
 irrefl _:=cD _
 trans _ _ _:=cO
 ntrans x y z h k:=by
  grind [zSe,cO,fM]
def cfI(x y:List PV):Int:=HP (zMK x) (zMK y)
theorem WV: ltOf cfI=zSe:=by
 funext x y
 exact rS
theorem zBD: SWO (ltOf cfI):=by grind [WV,zNp]
theorem SP{l:Bl}(d:∀x∈l,∀y∈l,x.p=y.p->x=y):∀x∈aP l,∀y∈aP l,ltOf cfI x y=false->ltOf cfI y x=false->x=y:=by
 rw[WV];intro x e y f h k;obtain⟨a,g,rfl⟩:=cg.1 e;obtain⟨b,j,rfl⟩:=cg.1 f;rw[d a g b j (fM h k)]
theorem VK(l:Bl):(aP l).mergeSort (zAb (ltOf cfI))=aP (iW l):=by
 rw[WV];exact(pj (r:=leI) (s:=zAb zSe) (f:=It.cs) (l:=l) λa _ b _=>rfl).symm
theorem uD(l:Bl):(iW l).Perm l:=l4 _ _
theorem HE(l:Bl):(iW l).length=l.length:=iq ..
theorem ZI(l:Bl):(iW l).Pairwise λx y=>cC y.p x.p=false:=by grind [iW,leI,List.pairwise_mergeSort,cO,fM,fL]
theorem ZJ{l:Bl}(f:(l.map It.p).Nodup):Srt (iW l):=by
 have d:((iW l).map It.p).Nodup:=(((uD l).map It.p).nodup_iff).2 f;have g:=ZI l;have j:(iW l).Pairwise λx y=>x.p≠y.p:=kp.1 d;exact(g.and j).imp λ{a b} ⟨h,k⟩=>by
  cases e:cC a.p b.p with
  | true=>rfl
  | false=>exact absurd (fM e h) k
def vL(t:Bl)(c:Ch):Bool:=if c.k==1 then !(aN t c.p).isSome else (aN t c.p).isSome && uX ((aN t c.p).getD nd0) c.o
def BO(c:Ch):Bl:=if c.k != 2 then [⟨c.p,c.n⟩] else []
def BP(l:Bh):Bl:=l.flatMap BO
def RF(ks:List Ba)(x:It):Bl:=if !(ks.contains x.p) then [x] else []
def zS(t:Bl)(ks:List Ba):Bl:=t.flatMap (RF ks)
def vU(l:Bh):List Ba:=(l.map Ch.p).reverse
def SJ(t:Bl)(l:Bh):Bl:=BP l++zS t (vU l)
def gP(t:Bl)(l:Bh):Bl × Int :=
 if !gU l then ([],1) else if !(l.all (vL t)) then ([],17)
 else if decide ((120:Int)<((iW (SJ t l)).length:Int)) then ([],16) else if !lC (iW (SJ t l)) then ([],17) else (iW (SJ t l),0)
theorem zD5(h:l[i]?=some c):BP (l.take (i+1))=BP (l.take i)++BO c:=by grind [BP,List.take_add_one]
theorem zDY(h:l[i]?=some c):vU (l.take (i+1))=c.p::vU (l.take i):=by grind [vU,List.take_add_one]
theorem zEw(h:t[i]?=some x):zS (t.take (i+1)) ks=zS (t.take i) ks++RF ks x:=by grind [zS,List.take_add_one]
theorem zIm(c:Ch):(BO c).length<=1:=by grind [BO]
theorem zJl(ks:List Ba)(x:It):(RF ks x).length<=1:=by grind [RF]
theorem zIn(l:Bh):(BP l).length<=l.length:=by
 induction l<;>grind [BP,zIm]
theorem zJm(t:Bl)(ks:List Ba):(zS t ks).length<=t.length:=by
 induction t<;>grind [zS,zJl]
theorem zMs(h:x∈BP l):∃c∈l,x=⟨c.p,c.n⟩:=by
 obtain⟨c,a,b⟩:=jc.1 h;grind [BO]
theorem QF(h:x∈zS t ks):x∈t/\ks.contains x.p=false:=by
 obtain⟨c,a,b⟩:=jc.1 h;grind [RF]
theorem qS: ∀{l:Bh} {q:Option Ba},gV q l=true->l.Pairwise (λx y=>cC x.p y.p=true)/\∀p,q=some p->∀c∈l,cC p c.p=true
 | [],q,_=>by simp_all
 | d::l,q,h=>by
  rw[gV,bn,bn] at h;have a:=qS (l:=l) h.2;grind [List.pairwise_cons.2,pV,cO]
theorem sC{α β:Type}{f:α->β}:∀{l:List α},(l.map f).Nodup->∀x∈l,∀y∈l,f x=f y->x=y
 | [],_,x,b,_,_,_=>by grind
 | a::l,h,x,b,y,d,e=>by
  rw[dt,ja] at h;have g:=bx.1 b;have j:=bx.1 d;rcases g with rfl|b<;>rcases j with rfl|d
  .rfl
  .grind
  .simp_all
  .exact sC h.2 x b y d e
theorem QI: ∀l:Bh,((BP l).map It.p).Sublist (l.map Ch.p)
 | []=>List.Sublist.slnil
 | c::l=>by
  have a:=QI l;simp only[BP,jq,gh,dt] at a ⊢;grind [BO]
theorem zCK(ks:List Ba):∀t:Bl,(zS t ks).Sublist t
 | []=>List.Sublist.slnil
 | c::l=>by
  have a:=zCK ks l;grind [zS,RF]
theorem LD(d:Srt t)(h:gU l=true):((SJ t l).map It.p).Nodup:=by
 have f:=(qS h).1;have g:(l.map Ch.p).Nodup:=kp.2 (f.imp λ{a b} h e=>by have:=mO h;rw[e] at this;simp at this)
 have j:(t.map It.p).Nodup:=kp.2 (d.imp λ{a b} h e=>by have:=mO h;rw[e] at this;simp at this)
 unfold SJ;rw[gh];refine o7.2 ⟨(QI l).nodup g,((zCK _ t).map _).nodup j,λp n q k e=>?_⟩;obtain⟨x,m,rfl⟩:=cg.1 k;obtain⟨_,o⟩:=QF m;grind [QI,vU]
theorem zME(a:Srt t)(h:gU l=true):∀x∈SJ t l,∀y∈SJ t l,x.p=y.p->x=y:=sC (LD a h)
theorem zMF{t:Bl}{l:Bh}(a:Srt t)(h:gU l=true):Srt (iW (SJ t l)):=ZJ (LD a h)
theorem zA5(h:x∈iW (SJ t l)):(∃c∈l,x=⟨c.p,c.n⟩)∨x∈t:=by
 have h:=(uD _).mem_iff.1 h;rcases c9.1 h with h|h
 .grind [zMs]
 .exact .inr (QF h).1
end
def zOu{s:Bl}(c:Srt s):s.Nodup:=c.imp λ{a b} h e=>by subst e;rw[cD] at h;cases h
theorem AB{s t:Bl}(a:Srt s)(b:Srt t)(h:∀x,x∈s↔x∈t):s=t :=
 oa (le:=λ(x y:It)=>cC x.p y.p=true) (λ_ _ _ _ h k=>by rw[fL h] at k;cases k) a b ((List.perm_ext_iff_of_nodup (zOu a) (zOu b)).2 h)
def zCo{l:Bh}{p:Ba}:(vU l).contains p=true↔∃c∈l,c.p=p:=by
 simp[vU]
def WX{l:Bh}{x:It}:x∈BP l↔∃c∈l,c.k≠2/\x=⟨c.p,c.n⟩:=by
 unfold BP;rw[jc];constructor
 .rintro⟨c,b,a⟩;unfold BO at a;split at a
  .rename_i d;exact⟨c,b,by simpa using d,by simpa using a⟩
  .simp at a
 .rintro⟨c,b,d,rfl⟩;refine⟨c,b,?_⟩;unfold BO;rw[aw (by simpa using d)];exact ep.2 rfl
def WZ{t:Bl}{ks:List Ba}{x:It}:x∈zS t ks↔x∈t/\ks.contains x.p=false:=by
 refine⟨QF,λ⟨a,b⟩=>jc.2 ⟨x,a,?_⟩⟩;unfold RF;rw[b,aw qh];exact ep.2 rfl
theorem zRW(x:It):(⟨x.p,x.n⟩:It)=x:=rfl
end Go.Dm
end
section
namespace Go.Dm
open Go
variable {p:Ba}{t:Bl}{i:Nat}{x:It}
theorem zHE{α β:Type}{f:α->β}:∀{l:List α},(l.map f).Nodup->∀x∈l,∀y∈l,f x=f y->x=y
 | [],_,x,c,_,_,_=>by grind
 | z::l,h,x,c,y,d,e=>by
  rw[dt,ja] at h;rcases bx.1 c with a|a<;>rcases bx.1 d with b|b
  .rw[a,b]
  .grind
  .simp_all
  .exact zHE h.2 x a y b e
theorem zCR{n:Nd}{b:Bl}:∀{a:Bl},(∀x∈a,cC x.p p=true)->zV p n false (a++b)=a++zV p n false b
 | [],_=>rfl
 | x::a,h=>by
  have c:=h x cz;have e:=mO c;have:=zCR (n:=n) (b:=b) λy d=>h y (cu _ d);grind [zV]
def At(t:Bl)(p:Ba)(i:Nat):Prop:=i<=t.length/\∀k x,t[k]?=some x->(k<i->cC x.p p=true)/\(i<=k->cC x.p p=false)
theorem zJv{n:Nd}(l:Srt t)(h:At t p i):wL t p n=t.take i++⟨p,n⟩::(match t[i]? with|some x=>if x.p==p then t.drop (i+1) else t.drop i|none=>[]):=by
 obtain ⟨m,h⟩:=h;have e:t=t.take i++t.drop i:=(jv i t).symm;have d:∀x∈t.take i,cC x.p p=true:=λx a=>by
  grind [List.mem_iff_getElem.1]
 unfold wL
 conv=>lhs;rw[e]
 rw[zCR d]
 congr 1
 rcases cc i t.length with b|b
 .have a:=ay b;have f:=drop_at a;have g:=(h i _ a).2 (bg _);rw[a];simp only;rw[f,zV,g,br,ej,yG];have c:oV (t.drop (i+1)) p=t.drop (i+1):=fw.2 λy j=>by
   obtain⟨k,o,rfl⟩:=ie.1 j;grind [List.pairwise_iff_getElem.1]
  rw[c];cases t[i].p==p<;>rfl
 .rw[jb b,cw b];rfl
theorem MQ{n:Nd}(b:Srt t)(h:At t p i)(a:t[i]?=some x)(c:(x.p==p)=true):wL t p n=t.set i ⟨p,n⟩:=by
 rw[zJv b h,a];simp only;rw[c,aw rfl,qa,aw (bz.1 a).1]
theorem RP{n:Nd}(b:Srt t)(h:At t p i)(c:∀x,t[i]?=some x->(x.p==p)=false):wL t p n=t.take i++⟨p,n⟩::t.drop i:=by
 rw[zJv b h]
 congr 2
 cases a:t[i]? with
 | none=>rw[cw (List.getElem?_eq_none_iff.1 a)]
 | some x=>simp only;rw[c x a,au qh]
def wK(a b:Ba)(x:It):It:=if mvd a x then ⟨b++x.p.drop a.length,x.n⟩ else x
def SH(t:Bl)(a b:Ba):Bl:=t.map (wK a b)
def gL(x:It):Bool:=!decide ((120:Int)<(x.p.length:Int))
theorem XC{a b:Ba}:∀(t out:Bl),(∀x∈t,mvd a x=true->gL ⟨b++x.p.drop a.length,x.n⟩=true)->(fW a b out t).2=0
 | [],_,_=>rfl
 | x::r,out,h=>by
  have d:=λo=>XC (a:=a) (b:=b) r o λy e=>h y (cu _ e);rw[fW];split
  .exact d _
  .rename_i f;have g:mvd a x=true:=by
    have c:(!(x.p==a) && !aT a x.p)=false:=by simpa only[ny] using f
    rw[mvd,c];rfl
   have:=h x cz g;simp only[gL,bo,dg] at this;rw[this,au qh];exact d _
theorem FM{a b:Ba}:∀(t out:Bl),(∃x∈t,mvd a x=true/\gL ⟨b++x.p.drop a.length,x.n⟩=false)->fW a b out t=([],12)
 | [],_,h=>by obtain⟨x,f,_⟩:=h;cases f
 | x::r,out,h=>by
  rw[fW];split
  .rename_i g;refine FM r _ ?_;obtain⟨y,c,d,e⟩:=h;rcases bx.1 c with rfl|c
   .unfold mvd at d;rw[g] at d;cases d
   .exact⟨y,c,d,e⟩
  .split
   .rfl
   .rename_i j;refine FM r _ ?_;obtain⟨y,c,d,e⟩:=h;rcases bx.1 c with rfl|c
    .simp only[gL,bo,kd] at e;exact absurd e j
    .exact⟨y,c,d,e⟩
theorem FL{a b:Ba}(h:OkT t)(m:a≠[])(u:b≠[])(c:(aN t b).isSome=false):((SH t a b).map It.p).Nodup:=by
 have j:∀y∈t,∀s,(s=[]∨∃r,s=47::r)->b++s≠y.p:=λy n s v e=>by
  rcases v with rfl|⟨r,rfl⟩
  .rw[dh] at e;have:=dI h.srt n;rw[<- e] at this;rw[this] at c;cases c
  .have w:aT b y.p=true:=by rw[<- e];exact pX u
   have z:=dI h.srt n;have:=zIH h.par u y.p.length y.p (bg _) (by rw[z];rfl) w;rw[this] at c;cases c
 have o:t.Pairwise λx y=>(wK a b x).p≠(wK a b y).p:=by
  refine(List.Pairwise.imp_of_mem ?_ h.srt);intro x y A n q;have d:=mO q;unfold wK;cases k:mvd a x<;>cases l:mvd a y
  .simp only[av,ax];intro e;rw[e] at d;simp at d
  .simp only[av,ax,az];obtain⟨s,f,g⟩:=nY m l;intro e;rw[f,ko] at e;exact j x A s g e.symm
  .simp only[av,ax,az];obtain⟨s,f,g⟩:=nY m k;intro e;rw[f,ko] at e;exact j y n s g e
  .simp only[az];obtain⟨s,f,_⟩:=nY m k;obtain⟨B,g,_⟩:=nY m l;intro e;rw[f,g,ko,ko,List.append_cancel_left_eq] at e;rw[f,g,e] at d;simp at d
 unfold SH;rw[List.map_map];exact kp.2 o
theorem GO(t:Bl)(a:Ba):x∈bU t a↔x∈t/\mvd a x=false:=by
 rw[iK,dy];unfold mvd;rw[kd]
theorem zPY{a b:Ba}(h:OkT t)(s:a≠[])(B:b≠[])(C:bZ b=true)(u:(aN t b).isSome=false):
  fW a b (bU t a) t=if (SH t a b).all gL then (iW (SH t a b),0) else ([],12):=by
 have j:∀x∈t,gL x=true:=λx g=>by
  have:=h.plen x g;simp only[gL,dg,ik];omega
 cases k:(SH t a b).all gL
 .rw[au qh];refine FM t _ ?_;obtain⟨z,l,c⟩:=nw.1 k;obtain⟨x,g,rfl⟩:=cg.1 l;have c:gL (wK a b x)=false:=by simpa using c
  unfold wK at c;cases d:mvd a x
  .rw[d,au qh,j x g] at c;cases c
  .rw[d,aw rfl] at c;exact⟨x,g,d,c⟩
 .rw [aw rfl];have v:(fW a b (bU t a) t).2=0:=XC t _ λx g d=>by
   have:=fb.1 k _ (List.mem_map_of_mem (f:=wK a b) g);unfold wK at this;rw[d,aw rfl] at this;exact this
  have D:=h.toOkT0.remove a;obtain⟨I,_⟩:=CS s B C h.its D.srt D.its v;have J:=ZJ (FL h s B u);have E:(fW a b (bU t a) t).1=iW (SH t a b):=by
   refine AB I J λz=>?_;rw[(uD _).mem_iff];constructor
   .intro l;rcases xN v l with l|⟨y,w,d,rfl⟩
    .obtain⟨F,G⟩:=(GO t a).1 l;refine cg.2 ⟨z,F,?_⟩;unfold wK;rw[G];rfl
    .refine cg.2 ⟨y,w,?_⟩;unfold wK;rw[d];rfl
   .intro l;obtain⟨y,w,rfl⟩:=cg.1 l;have A:∀q m,aN (fW a b (bU t a) t).1 q=some m->(⟨q,m⟩:It)∈(fW a b (bU t a) t).1:=λq m K=>by
     obtain⟨x,g,F,G⟩:=cP K;rw[<- F,<- G];exact g
    unfold wK;cases d:mvd a y
    .rw [au qh];refine A y.p y.n ?_;rw[sG s v λx g o e=>?_]
     .exact dI D.srt ((GO t a).2 ⟨w,d⟩)
     .have r:=FL h s B u;unfold SH at r;rw[List.map_map] at r;have H:x≠y:=λe=>by rw[e,d] at o;cases o
      have L:(wK a b x).p=(wK a b y).p:=by unfold wK;rw[o,d];exact e
      exact H (zHE (f:=It.p ∘ wK a b) r x g y w L)
    .rw[aw rfl];exact A _ _ (xM s d h.srt v w)
  exact kq E v
end Go.Dm
namespace Go.Dm
open Go
end Go.Dm
end
section
namespace Go.Dm
open Go
def zRk(x:Bl × Int):Prop:=(x.2=0->OkT x.1)/\(x.2≠0->x.1=[])
def zRk.len{x:Bl × Int}(h:zRk x):x.1.length<=1000000:=by
 by_cases a:x.2=0
 .exact bj (h.1 a).len qh
 .rw[h.2 a];simp
def fP(s:Ba):List Ba × Int :=
 if decide ((120:Int)<s.length) then ([],12) else if !(s.all λb=>!((b.toNat:Int)==0)) then ([],1)
 else if (rL s).all λx=>!decide ((24:Int)<x.length) then ((rL s).filter λx=>!(x == []),0) else ([],12)
def zX(d:Ba):Bool:=match d with
 | b::_=>(b.toNat:Int)==47
 | []=>false
def kM(t:Bl)(fo:Bool):Nat->Ba->List Ba->Nat->Ba × Bool × Int
 | 0,_,_,_=>([],false,11)
 | _+1,c,[],_=>(c,true,0)
 | f+1,c,p::a,h =>
  if p == [46] then kM t fo f c a h else if p == [46,46] then kM t fo f (aU c) a h
  else if !aZ t c then ([],false,9) else if decide ((120:Int)<(jP c p).length) then ([],false,12)
  else match aN t (jP c p) with
  | none=>if a == [] then (jP c p,false,0) else ([],false,6)
  | some n=>if n.k==3 && (!(a == []) || fo) then (if decide (8<=h) then ([],false,11) else if (fP n.d).2==0 then kM t fo f (if zX n.d then [] else c) ((fP n.d).1++a) (h+1) else ([],false,(fP n.d).2)) else kM t fo f (jP c p) a h
def cQ(t:Bl)(s:Ba)(fo:Bool):Ba × Bool × Int :=
 if (fP s).2==0 then kM t fo 1400 [] (fP s).1 0 else ([],false,(fP s).2)
structure Cl where
 k:Int
 p:Ba
 to':Ba
 m:Int
 t:Nat
 at':Int
 n:Int
 d:Ba
structure An where
 e:Int
 n:Nd
 d:Ba
 l:List Ba
def anE(e:Int):An:=⟨e,nd0,[],[]⟩
def gN(k:Int):Bool:=k==3 || k==4 || k==10 || k==11 || k==12 || k==14 || k==15
def jX(k:Int):Bool:=decide (1<=k) && decide (k<=11) && !(k==8)
def nF(m:Int):Bool:=decide (0<=m) && decide (m<=4095)
def bK(t:Bl)(p:Ba):Nd:=if p == [] then ⟨2,0,0,[]⟩ else (aN t p).getD nd0
def wrD(a:Ba)(f:Nat)(b:Ba):Ba:=a.take f++b++a.drop (f+b.length)
def zBZ(is:Bool)(n:Nd):Bool:=is && n.k==2
def zP1(kind:Int)(c:Cl):Nd:=⟨kind,if kind==3 then 511 else c.m,bL c.t,if kind==2 then [] else c.d⟩
def BM(t:Bl)(p:Ba)(is:Bool)(kind:Int)(c:Cl):Bl × Int :=
 if is then ([],7) else if !nF (zP1 kind c).m then ([],1)
 else if kind==3 && (decide ((c.d.length:Int)<1) || decide ((120:Int)<c.d.length) || !(c.d.all λb=>!(b==0))) then ([],1)
 else if kind==1 && decide ((2000:Int)<c.d.length) then ([],16) else vB t p (zP1 kind c)
def zC(is:Bool)(n:Nd):Int:=if !is then 6 else if zBZ is n then 8 else 0
def yN(t:Bl)(p:Ba)(n:Nd)(a:Int)(b:Ba):Bl × Int :=
 if decide (a<0) || decide ((n.d.length:Int)<a) then ([],1) else if decide (2000-a<(b.length:Int)) then ([],16)
 else vB t p ⟨n.k,n.m,n.t,wrD n.d a.toNat b⟩
def HL(t:Bl)(p:Ba)(n:Nd)(k:Int):Bl × Int :=
 if decide (k<0) || decide ((n.d.length:Int)<k) then ([],1) else vB t p ⟨n.k,n.m,n.t,n.d.take k.toNat⟩
def GS(t:Bl)(p:Ba)(is:Bool)(n:Nd):Bl × Int :=
 if p == [] then ([],1) else if !is then ([],6) else if !zBZ is n then ([],9) else if decide ((0:Int)<(eZ t p).length) then ([],10) else (bU t p,0)
def zOs(t:Bl)(p:Ba)(is:Bool)(n:Nd)(c:Cl):Bl × Int :=
 if !is then ([],6) else if p == [] || c.k==10 && !nF c.m then ([],1)
 else if c.k==10 then vB t p ⟨n.k,c.m,n.t,n.d⟩ else vB t p ⟨n.k,n.m,bL c.t,n.d⟩
def zD7(d:Bool)(t:Bl)(q:Ba)(is:Bool)(n:Nd):Int :=
 if !is then 0 else if d && !zBZ is n then 9 else if d && decide ((0:Int)<(eZ t q).length) then 10 else if !d && zBZ is n then 8 else 0
def wH(t:Bl)(p:Ba)(is:Bool)(n:Nd)(a:Ba):Bl × Int :=
 if !is then ([],6) else if !((cQ t a false).2.2==0) then ([],(cQ t a false).2.2)
 else if p == [] || (cQ t a false).1 == [] then ([],1) else if p==(cQ t a false).1 then (t,0)
 else if aT p (cQ t a false).1 then ([],18)
 else if !(zD7 (zBZ is n) t (cQ t a false).1 (cQ t a false).2.1 (bK t (cQ t a false).1)==0) then ([],zD7 (zBZ is n) t (cQ t a false).1 (cQ t a false).2.1 (bK t (cQ t a false).1))
 else mA (bU t (cQ t a false).1) p (cQ t a false).1
def cN(t:Bl)(p:Ba)(is:Bool)(n:Nd)(c:Cl):Bl × Int :=
 if c.k==1 then BM t p is 2 c else if c.k==2 then BM t p is 1 c else if c.k==7 then BM t p is 3 c else if c.k==6 then GS t p is n
 else if c.k==10 || c.k==11 then zOs t p is n c else if c.k==9 then wH t p is n c.to'
 else if !(zC is n==0) then ([],zC is n) else if c.k==3 then yN t p n c.at' c.d else if c.k==4 then HL t p n c.n else (bU t p,0)
def sO(is:Bool)(n:Nd)(a k:Int):An :=
 if !(zC is n==0) then anE (zC is n) else if decide (a<0) || decide (k<0) then anE 1 else ⟨0,nd0,(n.d.drop a.toNat).take k.toNat,[]⟩
def lN(t:Bl)(p:Ba)(is:Bool)(n:Nd)(c:Cl):An :=
 if c.k==14 then sO is n c.at' c.n else if !is then anE 6 else if c.k==8 && !(n.k==3) then anE 1 else if c.k==8 then ⟨0,nd0,n.d,[]⟩
 else if c.k==15 && !zBZ is n then anE 9 else if c.k==15 then ⟨0,nd0,[],eZ t p⟩ else ⟨0,n,[],[]⟩
def doP(t:Bl)(c:Cl):Bl × An :=
 if decide (c.k<1) || decide (15<c.k) then (t,anE 1) else if !((cQ t c.p (gN c.k)).2.2==0) then (t,anE (cQ t c.p (gN c.k)).2.2)
 else if !jX c.k then (t,lN t (cQ t c.p (gN c.k)).1 (cQ t c.p (gN c.k)).2.1 (bK t (cQ t c.p (gN c.k)).1) c)
 else if (cN t (cQ t c.p (gN c.k)).1 (cQ t c.p (gN c.k)).2.1 (bK t (cQ t c.p (gN c.k)).1) c).2==0 then ((cN t (cQ t c.p (gN c.k)).1 (cQ t c.p (gN c.k)).2.1 (bK t (cQ t c.p (gN c.k)).1) c).1,anE 0)
 else (t,anE (cN t (cQ t c.p (gN c.k)).1 (cQ t c.p (gN c.k)).2.1 (bK t (cQ t c.p (gN c.k)).1) c).2)
def mQ(t:Bl)(c:Cl)(p:Ba)(is:Bool):Bl × Int :=
 if is then (t,7)
 else if decide ((if c.k==7 then 511 else c.m)<0) || decide ((4095:Int)<(if c.k==7 then 511 else c.m)) || c.k==7 && !gZ c.d then (t,1)
 else if c.k==2 && decide ((2000:Int)<c.d.length) then (t,16)
 else vB t p ⟨if c.k==2 then 1 else if c.k==7 then 3 else 2,if c.k==7 then 511 else c.m,bL c.t,if c.k==2 || c.k==7 then c.d else []⟩
def sS(t:Bl)(p:Ba)(dir:Bool)(a:Ba):Bl × Int :=
 if !((cQ t a false).2.2==0) then (t,(cQ t a false).2.2)
 else if p == [] || (cQ t a false).1 == [] then (t,1) else if p==(cQ t a false).1 then (t,0)
 else if aT p (cQ t a false).1 then (t,18)
 else if (cQ t a false).2.1 then
  (if dir && !aZ t (cQ t a false).1 then (t,9) else if dir && decide ((0:Int)<(eZ t (cQ t a false).1).length) then (t,10)
   else if !dir && aZ t (cQ t a false).1 then (t,8) else mA (bU t (cQ t a false).1) p (cQ t a false).1)
 else mA t p (cQ t a false).1
def nO(t:Bl)(c:Cl)(p:Ba)(is:Bool):Bl × An :=
 let n:=(aN t p).getD nd0
 let a:=is && aZ t p
 if c.k==1 || c.k==2 || c.k==7 then ((mQ t c p is).1,anE (mQ t c p is).2)
 else if c.k==6 && p == [] then (t,anE 1) else if !is then (t,anE 6)
 else if c.k==3 then (if a then (t,anE 8) else if decide (c.at'<0) || decide ((n.d.length:Int)<c.at') then (t,anE 1) else if decide (2000-c.at'<(c.d.length:Int)) then (t,anE 16) else (wL t p ⟨n.k,n.m,n.t,wrD n.d c.at'.toNat c.d⟩,anE 0))
 else if c.k==4 then (if a then (t,anE 8) else if decide (c.n<0) || decide ((n.d.length:Int)<c.n) then (t,anE 1) else (wL t p ⟨n.k,n.m,n.t,n.d.take c.n.toNat⟩,anE 0))
 else if c.k==5 then (if a then (t,anE 8) else (bU t p,anE 0))
 else if c.k==6 then (if !a then (t,anE 9) else if decide ((0:Int)<(eZ t p).length) then (t,anE 10) else (bU t p,anE 0))
 else if c.k==8 then (if !(n.k==3) then (t,anE 1) else (t,⟨0,nd0,n.d,[]⟩))
 else if c.k==12 || c.k==13 then (t,⟨0,bK t p,[],[]⟩)
 else if c.k==14 then (if a then (t,anE 8) else if decide (c.at'<0) || decide (c.n<0) then (t,anE 1) else (t,⟨0,nd0,(n.d.drop c.at'.toNat).take c.n.toNat,[]⟩))
 else if c.k==15 then (if !a then (t,anE 9) else (t,⟨0,nd0,[],eZ t p⟩))
 else if c.k==10 then (if p == [] || decide (c.m<0) || decide (4095<c.m) then (t,anE 1) else (wL t p ⟨n.k,c.m,n.t,n.d⟩,anE 0))
 else if c.k==11 then (if p == [] then (t,anE 1) else (wL t p ⟨n.k,n.m,bL c.t,n.d⟩,anE 0))
 else ((sS t p a c.to').1,anE (sS t p a c.to').2)
def doR(t:Bl)(c:Cl):Bl × An :=
 if decide (c.k<1) || decide (15<c.k) then (t,anE 1) else if !((cQ t c.p (gN c.k)).2.2==0) then (t,anE (cQ t c.p (gN c.k)).2.2)
 else if (nO t c (cQ t c.p (gN c.k)).1 (cQ t c.p (gN c.k)).2.1).2.e==0 then nO t c (cQ t c.p (gN c.k)).1 (cQ t c.p (gN c.k)).2.1
 else (t,anE (nO t c (cQ t c.p (gN c.k)).1 (cQ t c.p (gN c.k)).2.1).2.e)
end Go.Dm
end
