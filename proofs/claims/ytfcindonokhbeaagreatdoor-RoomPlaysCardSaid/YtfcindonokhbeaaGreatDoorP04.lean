/- Part 5 of roomPlays_card. No condition. -/
import Derived.Test.YtfcindonokhbeaaGreatDoorP03
import Derived.ProofKit
import Derived.Below
import Derived.ChangeSame
import Derived.WideKeyArgs
set_option linter.all false
set_option maxRecDepth 100000
set_option maxHeartbeats 0
section
section
namespace Go.Dm
open Go
def mapM_at{α β:Type}{f:α->Option β}:∀{l:List α} {b:List β},l.mapM f=some b->b.length=l.length/\∀(i:Nat) (x:α),l[i]?=some x->∃y,b[i]?=some y/\f x=some y
 | [],b,h=>by
  simp_all
 | a::l,b,h=>by
  simp only[mb,Option.bind_eq_bind,px,Option.pure_def,b0] at h;obtain⟨y,d,e,c,rfl⟩:=h;obtain⟨j,k⟩:=mapM_at c;grind
def vK{α:Type}:∀(n:Nat) {p:Nat->α->Prop},(∀i,i<n->∃x,p i x)->∃l:List α,l.length=n/\∀(i:Nat) (x:α),l[i]?=some x->p i x
 | 0,_,_=>by simp_all
 | n+1,p,h=>by
  obtain⟨x,b⟩:=h 0 qd;obtain⟨l,a,c⟩:=vK n (p:=λi=>p (i+1)) λi d=>h (i+1) qd;refine⟨x::l,by simp[a],λi y e=>?_⟩
  grind
def SX(T:Tab):Nat->List (Nat × Nat)->Option Nat
 | a,[]=>some a
 | a,f::r=>if f.2=a then SX T (a+(T f.1).size) r else none
def xG(T:Tab):Nat->Nat->Bool
 | 0,_=>false
 | g+1,t =>
  match (T t).k with
  | .bool=>true
  | .int _=>true
  | .float=>true
  | .str=>true
  | .slice e=>xG T g e && decide ((T e).size≠0)
  | .struct fs=>(SX T 0 fs==some (T t).size) && fs.all λf=>xG T g f.1
  | _=>false
def PVs(p:Nat->List PV->Prop):List (Nat × Nat)->Bc->Prop
 | [],[]=>True
 | f::fs,x::a=>p f.1 x/\PVs p fs a
 | _,_=>False
def uR(T:Tab):Nat->Nat->List PV->Prop
 | 0,_,_=>False
 | g+1,t,a =>
  match (T t).k with
  | .bool=>∃b,a=[.b b]
  | .int k=>∃n,a=[.i k n]/\(Lit.int k n).wf=true
  | .float=>∃n,a=[.f n]/\n<18446744073709551616
  | .str=>∃l,a=[.s l]/\l.length<=9223372036854775807
  | .slice e=>∃c,a=[.sl (T e).size c]/\(∀x∈c,uR T g e x)/\c.length<=9223372036854775807
  | .struct fs=>∃parts:Bc,a=parts.flatten/\PVs (uR T g) fs parts
  | _=>False
section
variable {P:Program}{T:Tab}{H:Type}{enc:TypeId × Value->H}{w:World}{sp:Nat->Bool}{held:Bool}
variable {t g:Nat}{fs:List (Nat × Nat)}{p:Nat->List PV->Prop}{ps:Bc}
theorem yT(a:bQ P T)(h:(T t).k≠.no):P.cellsOf t=(T t).size:=by
 obtain⟨_,i,z,b,c,_⟩:=cI a h;grind [Program.cellsOf]
theorem tT(h:xG T g t=true):(T t).k≠.no:=by
 cases g with
 | zero=>grind [xG]
 | succ g=>grind [xG]
theorem zKC{a:Addr}{n:Nat}{cs:Bb}(h:w.cells? 0 a n=some cs):cs.length=n/\∀(i:Nat) (v:Value),cs[i]?=some v->w.cell? (a.add i)=some v:=by
 simp only[World.cells?,bc,az] at h;obtain⟨b,c⟩:=mapM_at h;refine⟨by simpa using b,λi v e=>?_⟩
 have d:i<n:=by grind
 obtain⟨y,f,j⟩:=c i i (by simp[d]);simp_all
theorem HK(o:bQ P T):∀(g:Nat) {t C:Nat} {cs:Bb} {d:DataW H} {ps:List MemPlace},xG T g t=true->DataW.trod enc P w 0 sp held C t cs=some (d,ps) ->
  ∃u,uR T g t u/\bV w (λb=>b<w.heap.size) u cs
 | 0,_,_,_,_,_,r,_=>by simp[xG] at r
 | g+1,t,0,_,_,_,_,h=>by simp[DataW.trod] at h
 | g+1,t,C+1,cs,d,ps,r,h=>by
  have E:=tT r;cases m:(T t).k with
  | no=>exact absurd m E
  | bool =>
   simp only[DataW.trod,CY o m] at h;simp only[uR,m]
   match cs,h with
   | [.bool b],_=>exact⟨_,⟨b,rfl⟩,by simp[bV,dO]⟩
  | int k =>
   simp only[DataW.trod,tC o m] at h;simp only[uR,m];grind [bV,dO]
  | float =>
   have U:P.underlying t=some (.float .f64):=by
    have:=(cI o E).1;rw[m] at this;revert this;cases P.underlying t with
    | none=>simp[kV]
    | some d=>cases d<;>simp[kV]
   simp only[DataW.trod,U] at h;simp only[uR,m]
   match cs,h with
   | [.float k' n],h =>
    simp only at h;split at h
    .rename_i L;exact⟨_,⟨n,rfl,by simpa[Lit.wf] using L.2⟩,by simp[bV,dO,L.1]⟩
    .cases h
  | str =>
   simp only[DataW.trod,oM o m] at h;simp only[uR,m]
   match cs,h with
   | [.string s],h =>
    simp only at h;split at h
    .rename_i L;exact⟨_,⟨s.data.toList,rfl,by unfold maxLen at L;simpa using L⟩,by simp[bV,dO]⟩
    .cases h
  | slice e =>
   simp only[xG,m,bn,ew] at r;have V:=tT r.1;have X:=yT o V;simp only[DataW.trod,bF o m] at h;simp only[uR,m]
   match cs,h with
   | [.slice none 0 0],_=>exact⟨_,⟨[],rfl,ql,ql⟩,⟨⟨none,0,rfl,bg _,.inl rfl⟩,True.intro⟩⟩
   | [.slice (some a) len Y],h =>
    simp only at h;split at h
    .rename_i hb;obtain⟨_,hlc,Z⟩:=hb;simp only[px,du] at h;obtain⟨elems,he,_⟩:=h;obtain⟨h1,h2⟩:=mapM_at he;simp only[o8] at h1;have h3:∀i,i<len->∃u,uR T g e u/\u.length=(T e).size/\∃cs,bV w (λb=>b<w.heap.size) u cs/\∀(j:Nat) (v:Value),cs[j]?=some v->w.cell? ((a.add (i*(T e).size)).add j)=some v:=by
      intro i M;obtain⟨y,_,F⟩:=h2 i i (by simp[M]);simp only[px] at F;obtain⟨ci,A,ht⟩:=F;simp only[X] at A;obtain⟨hl,c⟩:=zKC A;obtain⟨u,N,J⟩:=HK o g r.1 (d:=y.1) (ps:=y.2) ht;exact⟨u,N,by rw[J.length,hl],ci,J,c⟩
     obtain⟨es,he1,G⟩:=vK len h3;refine⟨_,⟨es,rfl,λx N=>?_,by unfold maxLen at Z;omega⟩,?_⟩
     .obtain⟨i,M⟩:=eh.1 N;exact(G i x M).1
     .simp only[bV,dO];refine⟨⟨some a,Y,by rw[he1],qd,?_⟩,trivial⟩
      rcases ot len with hz|hz
      .left;exact j0 qd
      .right;have h0:es[0]?=some es[0]:=ay qd;obtain⟨_,B,c0,hx3,hx4⟩:=G 0 _ h0;have hc0:0<c0.length:=by rw[<- hx3.length,B];omega
       have c:=hx4 0 _ (ay hc0);have O:(a.add (0*(T e).size)).add 0=a:=by simp[Addr.add]
       rw [O] at c;obtain⟨bl,l,D⟩:=a;have hsp:D=none:=by
        cases D with
        | none=>rfl
        | some q =>
         simp only[World.cell?] at c;split at c<;>simp_all
       subst hsp;have hbl:bl<w.heap.size:=by
        rcases cc bl w.heap.size with hlt|hge
        .exact hlt
        .simp only[World.cell?,jx hge] at c;cases c
       refine⟨bl,l,rfl,hbl,hD.mk λj x hj=>?_⟩;obtain⟨_,y2,cj,y3,y4⟩:=G j x hj;refine⟨y2,jC.mk λq z hq=>?_⟩;obtain⟨v,hv,hrv⟩:=y3.at_ hq;have:=y4 q v hv;rw[jW,jW] at this;exact⟨v,this,hrv⟩
    .cases h
  | struct fs =>
   simp only[xG,m,bn,fb,dq] at r;obtain⟨fields,U,I⟩:=pQ o m;simp only[DataW.trod,U,yT o E] at h;simp only[uR,m];split at h
   .rename_i hlen;simp only[du] at h;obtain⟨u,N,_⟩:=h;obtain⟨h1,h2⟩:=mapM_at N;have key:∀(K:List Field) (l:Nat),SX T l (K.map λf=>(f.type,f.offset))=some (T t).size->(∀f∈K,f∈fields.toList) ->
      ∃parts,PVs (uR T g) (K.map λf=>(f.type,f.offset)) parts/\bV w (λb=>b<w.heap.size) parts.flatten (cs.drop l):=by
     intro K
     induction K with
     | nil =>
      intro l A _;simp only[gw,SX,b0] at A;refine⟨[],trivial,?_⟩;rw[cw qd];exact trivial
     | cons f K ih =>
      intro l A Q;simp only[dt,SX] at A;split at A
      .rename_i ho;obtain⟨parts,S,J⟩:=ih _ A λy F=>Q y (cu _ F);have hf:=Q f cz;have R:xG T g f.type=true:=r.2 (f.type,f.offset) (by rw[<- I];exact cg.2 ⟨f,hf,rfl⟩);obtain⟨i,M⟩:=eh.1 hf;obtain⟨y,_,F⟩:=h2 i f M;simp only[yT o (tT R)] at F;obtain⟨x,hx1,B⟩:=HK o g R (d:=y.1) (ps:=y.2) F;refine⟨x::parts,⟨hx1,S⟩,?_⟩;have ec:cs.drop l=((cs.drop l).take (T f.type).size)++cs.drop (l+(T f.type).size):=by
        rw[<- kv,jv]
       rw[mo,ec];rw[show f.offset=l from ho] at B
       exact B.append J
      .cases A
    obtain⟨parts,S,J⟩:=key fields.toList 0 (by rw[I];exact r.1) λ_ h=>h;rw[I] at S;exact⟨_,⟨parts,rfl,S⟩,by simpa using J⟩
   .cases h
  | _=>simp[xG,m] at r
theorem GD{a:List PV}(b:(T t).k=.struct fs)(h:uR T (g+1) t a):∃parts:Bc,a=parts.flatten/\PVs (uR T g) fs parts:=by grind [uR]
section
variable {P:Program}{T:Tab}{H:Type}{enc:TypeId × Value->H}{w:World}{sp:Nat->Bool}{held:Bool}
end
theorem eM{f:Nat × Nat}(h:PVs p (f::fs) ps):∃x r,ps=x::r/\p f.1 x/\PVs p fs r:=by
 cases ps with
 | nil=>exact h.elim
 | cons x r=>exact⟨x,r,rfl,h.1,h.2⟩
theorem zI0(h:PVs p [] ps):ps=[]:=by
 cases ps with
 | nil=>rfl
 | cons x r=>exact h.elim
end
end Go.Dm
end
section
namespace Go.Dm
open Go Go.ChangeShapes Go.RowKit Go.WideShapes
def iB(W:World):Ctx:=⟨W,λb=>b<W.heap.size,λ_=>none,[]⟩
def WM(W:World):HInv (iB W) :=
 ⟨λ_ h=>h,λid a h=>by simp[iB] at h,λid a g h=>by simp[iB] at h,λid a b c g d h=>by simp[iB] at h⟩
section
variable {P:Program}{T:Tab}{H:Type}{enc:TypeId × Value->H}
variable {W W':World}{fn:Func}{args:Array Value}
def zTh(b:TI)(a:List PV):DV:=if b.k.agg then .agg (a.map .p) else .c (.p (a.headD .nil))
theorem zKv(i:bQ P T){l:Nat}{sp:Nat->Bool}{held:Bool}(g:Nat){t:Nat}{v:Value}{d:DataW H}{ps:List MemPlace}(n:xG T g t=true)(c:Value.okWide P W .any l t v)
 (h:DataW.Trod enc P W 0 sp held t v d ps):∃j,uR T g t j/\bH (iB W) (zTh (T t) j) v:=by
 obtain⟨r,s⟩:=h;obtain⟨j,f,o⟩:=HK i g n s;refine⟨j,f,?_⟩;have m:=tT n;cases g with
 | zero=>simp[xG] at n
 | succ g =>
  have a:(∃x,j=[x])->v.cells = #[v]->(T t).k.agg=false->bH (iB W) (zTh (T t) j) v:=by
   rintro⟨x,rfl⟩ u y;rw[u] at o;simp only[zTh,y,av,ax,List.headD_cons];exact CT (X:=iB W) o.1
  cases hk:(T t).k with
  | no=>exact absurd hk m
  | bool =>
   simp only[uR,hk] at f;obtain⟨b,rfl⟩:=f;refine a ⟨_,rfl⟩ ?_ qu;simp only[Value.okWide,CY i hk,Cell.okWide,Cell.ok] at c;cases v<;>first|rfl|exact c.elim
  | int k =>
   simp only[uR,hk] at f;obtain⟨b,rfl,_⟩:=f;refine a ⟨_,rfl⟩ ?_ qu;simp only[Value.okWide,tC i hk,Cell.okWide,Cell.ok] at c;cases v<;>first|rfl|exact c.elim
  | float =>
   have q:P.underlying t=some (.float .f64):=by
    have:=(cI i m).1;rw[hk] at this;revert this;cases P.underlying t with
    | none=>simp[kV]
    | some d=>cases d<;>simp[kV]
   simp only[uR,hk] at f;obtain⟨b,rfl,_⟩:=f;refine a ⟨_,rfl⟩ ?_ qu;simp only[Value.okWide,q,Cell.okWide,Cell.ok] at c;cases v<;>first|rfl|exact c.elim
  | str =>
   simp only[uR,hk] at f;obtain⟨b,rfl,_⟩:=f;refine a ⟨_,rfl⟩ ?_ qu;simp only[Value.okWide,oM i hk,Cell.okWide,Cell.ok] at c;cases v<;>first|rfl|exact c.elim
  | slice e =>
   simp only[uR,hk] at f;obtain⟨b,rfl,_⟩:=f;refine a ⟨_,rfl⟩ ?_ qu;simp only[Value.okWide,bF i hk,Cell.okWide,Cell.ok] at c;cases v<;>first|rfl|exact c.elim
  | struct fs =>
   obtain⟨fields,q,_⟩:=pQ i hk;simp only[Value.okWide,q] at c;obtain⟨cs,rfl,_⟩:=c;simp only[zTh,hk,TK.agg,az];exact⟨cs.toList,ql,bP.of_ps (X:=iB W) o⟩
  | _=>simp[xG,hk] at n
theorem zHX {f:FuncId} (s:P.funcs[f]?=some fn) (i:fn.body.isSome=true) (u:(fn.name == "runtime.NumGoroutine")=false) {ds:Bi} (m:aA P f ds [] λd h=>d=.c (.p (.b true))/\h=[])
 (j:W.ShapedOpen P) (l:zOF W) (n:eC (iB W) ds args.toList):Calls P f args W λe W'=>e=.returned (.bool true)/\Below W.heap.size W W':=by
 have o:∀v W',Ret (iB W) (λd h=>d=.c (.p (.b true))/\h=[]) v W'->v=.bool true/\Below W.heap.size W W':=by
  rintro v W' ⟨d,x,rfl,_,a,q,rfl,_⟩;refine⟨q,a.os,a.tape,a.output.1,a.size,λk r=>a.frame k r λid y g h=>by simp[iB] at h⟩
 rcases m (iB W) args.toList rfl (WM W) ⟨W,⟨j,l⟩,λb i=>⟨i,rfl⟩⟩ n with⟨_,h⟩|⟨v,z,h,_⟩
 .exact h.mono λe W' ⟨v,A,B⟩=>by
   grind
 .exfalso;obtain⟨c,m⟩:=l5.1 i;simp_all[callFunc]
theorem yJ(f:laidOutB P=true){b:Nat->Bool}(i:Below W.heap.size W W'):∀{ts:List TypeId} {vs:Bb} {ds:List (DataW H)} {ps:List MemPlace},(∀t∈ts,P.readableRec t=true/\t<P.types.size) ->
  DataW.TrodAll enc P W 0 (λ_=>true) true ts vs ds ps->(∀p∈ps,p.block<W.heap.size)->(∀p∈ps,b p.block=true)->DataW.TrodAll enc P W' 0 b true ts vs ds ps
 | [],[],[],_,_,h,_,_=>h
 | t::ts,v::vs,d::ds,ps,j,h,c,k=>by
  obtain ⟨p,q,l,m,rfl⟩:=h;have e:=j t cz;exact⟨p,q,WideElems.Trod_stays f e.1 e.2 l (λx a=>i.same (c x (fg _ a))) (λx a=>k x (fg _ a)),
   yJ f i (λt e=>j t (cu _ e)) m (λx a=>c x (jy _ a)) (λx a=>k x (jy _ a)),rfl⟩
 | [],_::_,_,_,_,h,_,_=>by cases h
 | [],[],_::_,_,_,h,_,_=>by cases h
 | _::_,[],_,_,_,h,_,_=>by cases h
 | _::_,_::_,[],_,_,h,_,_=>by cases h
theorem zMh{s:ChangeSpec}{c e f:Bool}{ds B:List (DataW H)}{before:List MemPlace}{tb:Nat}(F:laidOutB P=true)(a:s.vars=[])
 (q:DataW.Whole enc P fn.params.toList s.vars false W args.toList ds B before)(u:∀t∈fn.params.toList,P.readableRec t=true/\t<P.types.size)(d:fn.resultTypes = #[tb])(h:P.underlying tb=some .bool)
 (v:s.fn H (ds++B) = { results:=[.lit (.bool true)],args:=ds })(x:Below W.heap.size W W'):s.post enc P fn false f c e W args (.bool true) W':=by
 have k:∀p∈before,p.block<W.heap.size:=λp l=>q.lt p l;have y:=q;obtain⟨L,pv,G,C,m,I,M⟩:=y;rw[a] at C;obtain⟨rfl,rfl⟩:=trodVars_none C;rw[dh] at m;subst m;have i:∀sp:Nat->Bool,(∀p∈before,sp p.block=true)->DataW.TrodAll enc P W' 0 sp true fn.params.toList args.toList ds before:=λsp J=>yJ F x u G k J;have K:∀(b:Nat) (sp:Nat->Bool) (D:Bool),DataW.TrodAll enc P W' b sp D fn.resultTypes.toList ((Value.bool true).resultList fn.resultTypes.size) [.lit (.bool true)] []:=by
  intro b sp D;rw[d];exact trodAll_mk1 ⟨1,by simp[DataW.trod,Value.cells,h]⟩
 have z:∀(j:Nat) (t:TypeId) (r:Value),fn.resultTypes[j]?=some t->((Value.bool true).resultList fn.resultTypes.size)[j]?=some r->Value.okWide P W' .any 0 t r:=by
  rw[d];intro j t r E A;cases j with
  | zero =>
   simp only[Array.size_singleton,Value.resultList] at A;simp at E A;subst E;subst A;simp_all[Value.okWide,Cell.okWide,Cell.ok]
  | succ j=>simp_all
 refine⟨ds,[],before,[],before,[],q,?_,?_,?_,World.keptBut_mono (λp l=>⟨l,.inr (by simpa using l)⟩) (x.frame (·∈before)),λ_=>?_⟩
 .grind
 .simp_all
 .rw[a,v];rfl
 .refine ⟨z,_,[],([]++before)++[],⟨[]++before,[],trodAll_append (i _ (λ_ _=>rfl)) (K _ _ _),(by rw[a];exact rfl),rfl,?_,?_⟩,?_⟩
  .intro b n l;have o:MemPlace.cell b n∈before:=qw
   rw[x.frozen (k _ o)];exact I b n o
  .simp_all
  .simp_all
theorem XY{l:List TypeId}(h:(l.all λt=>P.readableRec t && decide (t<P.types.size))=true):∀t∈l,P.readableRec t=true/\t<P.types.size:=qw
theorem zBR: ∀{es:Bc},(∀x∈es,∃n,x=[.i .u8 n]/\(Lit.int .u8 n).wf=true)->∃l,es=bS l/\l.length=es.length
 | [],_=>⟨[],rfl,rfl⟩
 | x::es,h=>by
  obtain⟨n,rfl,b⟩:=h x cz;obtain⟨l,rfl,c⟩:=zBR λy a=>h y (cu _ a);grind [Lit.wf,IntKind.min,IntKind.max,IntKind.signed,IntKind.bits,zRt]
end
end Go.Dm
end
end
