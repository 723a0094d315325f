/- Part 23 of roomPlays_card. No condition. -/
import Derived.Test.YtfcindonokhbeaaGreatDoorP19
import Derived.Test.YtfcindonokhbeaaGreatDoorP18
import Derived.StringKeys
set_option linter.all false
set_option maxRecDepth 100000
set_option maxHeartbeats 0
section
namespace Go.Dm
open Go
def aA.rowP{P:Program}{f:FuncId}{args:Bi}{k:Nat}{es:Bc}(x:aA P f args [] λd b=>(d=.c (.p .nil)/\es=[])∨∃j off a,d=.c (.own j off es.length)/\b[j]?=some (.arr k a false)/\(a.drop off).take es.length=es):
  aA P f args [] λd b=>d=.c (.own 0 0 es.length)/\b=[.arr k es false]:=by
 refine aA.rowR ?_;intro X vals y z A B;have l:∀v w',Ret X (λd b=>(d=.c (.p .nil)/\es=[])∨∃j off a,d=.c (.own j off es.length)/\b[j]?=some (.arr k a false)/\(a.drop off).take es.length=es) v w'->Ret X (λd b=>(d=.c (.p .nil)/\es=[])∨∃j,d=.c (.own j 0 es.length)/\b[j]?=some (.arr k es false)) v w':=by
  rintro v w' ⟨d,Z,n,o,q,C,D⟩;rcases D with h|⟨j,off,a,rfl,E,r⟩
  .exact⟨d,Z,n,o,q,C,.inl h⟩
  .have g:∀i:Nat,bH Z (look [(0,.c (.own j off es.length))] i) ((#[v]:Array Value).getD i undef):=λi=>by
    simp only[look];split
    .simp_all
    .exact True.intro
   obtain⟨t,F,J,G,H,I⟩:=FD (n0:=X.h.length) (s:=⟨1,[(0,.c (.own j off es.length))],Z.h⟩) 0 j off es.length rfl E X Z ⟨#[v],[]⟩ rfl rfl o q ⟨rfl,g,rfl⟩;have m:bH t (.c (.own Z.h.length 0 es.length)) v:=I.rel 0;refine⟨_,t,F.trans n,G,H,m,.inr ⟨Z.h.length,rfl,?_⟩⟩;simp_all
 rcases x X vals y z A B with⟨u,w⟩|⟨v,w',u,w⟩
 .exact .inl ⟨u,w.mono λe w' ⟨v,r,m⟩=>⟨v,r,l v w' m⟩⟩
 .grind
def LY{X Y:Ctx}{bl:Nat}(f:Y.w=X.w)(i:∀c v,cJ X c v->cJ Y c v){x y:CV}(a:∀v,cJ X x v->cJ Y y v):∀{cs:Bf} {off n:Nat},cR X bl off cs->cs[n]?=some x->cR Y bl off (cs.set n y)
 | [],_,_,_,h=>by simp_all
 | c::cs,off,0,h,g=>by
  simp only[eu,b0] at g;subst g;obtain⟨⟨v,b,d⟩,e⟩:=h;refine⟨⟨v,by rw[f];exact b,a v d⟩,?_⟩
  have j:∀{cs:Bf} {off:Nat},cR X bl off cs->cR Y bl off cs:=by
   intro cs
   induction cs with
   | nil=>intro off _;exact True.intro
   | cons c cs k =>
    rintro off ⟨⟨v,b,d⟩,e⟩;exact⟨⟨v,by rw[f];exact b,i _ _ d⟩,k e⟩
  exact j e
 | c::cs,off,n+1,h,g=>by
  obtain⟨⟨v,b,d⟩,e⟩:=h;exact⟨⟨v,by rw[f];exact b,i _ _ d⟩,LY f i a e (by simpa using g)⟩
def zDZ{n0:Nat}{s:DS}(id n k:Nat){cells:Bf}(o:s.h[id]?=some (.box cells))(I:cells[n]?=some (.p .nil))(hid:n0<=id):
  SE n0 s ⟨s.n,s.t,s.h.set id (.box (cells.set n (.own s.h.length 0 0)))++[.arr k [] false]⟩:=by
 intro U X a J F u K z;obtain⟨A,q⟩:=virt u k;rw[<- F] at o;have f:=(bz.1 o).1;have e:(X.virt k).h[id]?=some (.box cells):=by
  show (X.h++_)[id]? = _;rw[fu f];exact o
 obtain⟨g,b,B,C,i,D,L,M,V⟩:=q.blk id _ e;have l:Touched (X.virt k).w (X.virt k).w g.1:=⟨rfl,rfl,wP.rfl',rfl,λ_ _=>rfl,.inl ⟨b,B,C,b,B,C,D,D,rfl⟩⟩;have r:=Step.put q e rfl rfl i l (d:=.box (cells.set n (.own X.h.length 0 0))) True.intro rfl
 have m:fI ((X.virt k).put (X.virt k).w id (.box (cells.set n (.own X.h.length 0 0)))) id (.box (cells.set n (.own X.h.length 0 0))):=by
  refine⟨g,b,B,C,i,D,by simpa using L,M,?_⟩
  obtain ⟨W,H,N,O,P,Z,r3,r4,Q⟩:=u.blk id _ o;have R:(X.virt k).G id=X.G id:=by
   show (if id=X.h.length then none else X.G id)=X.G id
   rw[au qd]
  rw[R,P] at i;cases i;refine LY (X:=X) (Y:=((X.virt k).put (X.virt k).w id (.box (cells.set n (.own X.h.length 0 0))))) (y:=.own X.h.length 0 0) rfl (λc v S=>?_) (λv T=>?_) Q I
  .exact bH.step r (bH.step A (vC (x:=c) S))
  .exact bH.step r (vC (x:=.own X.h.length 0 0) (kT T))
 have E:=HInv.put q e rfl rfl i l (d:=.box (cells.set n (.own X.h.length 0 0))) True.intro rfl m
 refine⟨((X.virt k).put (X.virt k).w id (.box (cells.set n (.own X.h.length 0 0)))),rfl,?_,E,(K.trans u A).trans q r,z.size,λj=>?_,z.defs⟩
 .show (X.h++[DB.arr k [] false]).set id _=_
  rw[ow _ _ f,F]
 .exact bH.step r ((z.rel j).step A)
section
variable {P:Program}{f:FuncId}{h:aF}{T:Tab}{rs:List ResultVar}{R:Bd}{s:DS}
theorem aA.frzB{x a a':DV}{K:Bd}(w:(nN [a]).isEmpty=false)(n:jI h [a]=some [a'])
 (o:aA P f [x,a'] (uM h (nN [a])) K):aA P f [x,a] h K:=by
 intro X vals y p z A;obtain⟨b,q,B,L,c,r,C⟩:=kF (nN [a]) p;rw[<- y] at n o
 match vals,A with
 | [v0,g],⟨i,j,_⟩ =>
  have k:eC b [a'] [g]:=oU (Y:=b) (ds:=[a]) p c q rfl rfl (show eC X [a] [g] from ⟨j,True.intro⟩) n C
  have l:bH b x v0:=bH.step c i;have m:∀v w',Ret b K v w'->Ret X K v w':=λv w' ⟨d,Y,D,E,F,G,H⟩=>⟨d,Y,D,E,c.trans r F,G,H⟩;rw[<- q];rcases o b [v0,g] B r (z.step c) ⟨l,k.1,True.intro⟩ with⟨t,u⟩|⟨v,w',t,u⟩
  .exact .inl ⟨t,u.mono λe w' ⟨v,I,J⟩=>⟨v,I,m _ _ J⟩⟩
  .grind
def dP(r:Rm):aF:=[.box [.own 4 0 r.N.length,.own 5 0 r.L.length,.mp 6,.p (.i .i64 r.x)],.dead,.dead,.dead,.arr 2 (bW r.N) false,.arr 4 (cZ r.L) false,.mp (uV r.E)]
attribute [go_sem] dP
def BU(T:Tab)(t:Fr)(h:aF)(R:Bd):List ResultVar->Bj->Prop
 | [],b=>R (NZ b.reverse) h
 | .tmp i::rs,b =>
  match look t i with
  | .c x=>BU T t h R rs (.c x::b)
  | .agg e=>BU T t h R rs (.agg e::b)
  | _=>False
 | .cell a g::rs,b=>(T g).size≠0/\yW (T g) h (look t a) λd =>
  match d with
  | .c x=>BU T t h R rs (.c x::b)
  | .agg e=>BU T t h R rs (.agg e::b)
  | _=>False
def zC0(T:Tab)(rs:List ResultVar)(R:Bd):Be
 | .normal,s=>BU T s.t s.h R rs []
 | .ret,s=>BU T s.t s.h R rs []
 | _,_=>False
theorem zNP: zC0 T rs R .normal s=BU T s.t s.h R rs []:=nr rfl
theorem zNQ: zC0 T rs R .ret s=BU T s.t s.h R rs []:=nr rfl
theorem mM: ∀(rs:List ResultVar) (es:Bj) {K:Bj->Prop},(∀l,R (NZ (es.reverse++l)) s.h->K l)->BU T s.t s.h R rs es->rG T s rs K
 | [],es,K,b,h=>b [] (by simpa[BU] using h)
 | .tmp i::rs,es,K,b,h=>by
  simp only[BU,rG] at h ⊢;generalize look s.t i=d at h ⊢;cases d<;>simp only at h ⊢
  .exact mM rs _ (λl c=>b _ (by simpa using c)) h
  .exact mM rs _ (λl c=>b _ (by simpa using c)) h
 | .cell a g::rs,es,K,b,h=>by
  refine⟨h.1,KA (λd e=>?_) h.2⟩;cases d<;>simp only at e ⊢
  .exact mM rs _ (λl c=>b _ (by simpa using c)) e
  .exact mM rs _ (λl c=>b _ (by simpa using c)) e
theorem qC (i:bQ P T) (j:P.follows .mixedOrders=true) {a:Func} {c:Code} {args:Bi} (k:P.funcs[f]?=some a) (m:a.body=some c)
 (b:(Nat.ble args.length a.ntmps && !(a.name == "runtime.NumGoroutine"))=true)
 (n:∀X0:Ctx,X0.h=h->vc P T X0 c ⟨a.ntmps,mV 0 args,h⟩ (zC0 T a.results.toList R)):aA P f args h R:=by
 simp only[bn,dg] at b;refine hZ i k m (gk b.1) b.2 λX0 o=>?_;rw[iR];refine iP (eN i j c (n X0 o)) λe s d=>?_;cases e<;>simp only[zC0,BK] at d ⊢
 case normal=>exact mM _ [] (λl g=>.inl (by simpa using g)) d
 case ret=>exact mM _ [] (λl g=>.inl (by simpa using g)) d
attribute [go_sem] zNP zNQ BU List.getElem?_nil
end
end Go.Dm
end
section
namespace Go.Dm
open Go Go.Proofs Go.Sort
section
variable {t w:Bl}{x:It}{l:Bk}
def PX(t w:Bl)(p:Ba):Bool:=t.any λy=>aT p y.p && (aN w y.p).isSome
def wA(t w:Bl)(p:Ba):Bool:=aZ w p && (aZ t p && (!decide (((eZ t p).length:Int)<2) && !PX t w p))
theorem zDX(t w:Bl)(p:Ba):PX t w p=nJ t w p:=by grind [PX,nJ]
theorem zR8(a:x∈w)(h:LC t w x=true):isB (lK t w) x.p=true :=
 jj.2 ⟨x.p,cg.2 ⟨x,dy.2 ⟨a,h⟩,rfl⟩,fa _⟩
theorem LB(a:OkT w)(b:x∈w):((x.n.k==2) && wA t w x.p)=isB (lK t w) x.p:=by
 have c:(x.p == [])=false:=by simpa using a.ne x b
 have d:aZ w x.p=(x.n.k==2):=by
  unfold aZ;rw[dI a.srt b,c,dw]
 grind [wA,LC,zG,zDX,zR8,QM]
def zTC(t w:Bl)(q:Ba):Bool:=!(aN w q).isSome || (!aZ w q || wA t w q)
theorem zR1(a:OkT w){q:Ba}(b:q≠[]):zTC t w q=(!(aN w q).isSome || (((aN w q).getD nd0).k != 2 || isB (lK t w) q)):=by grind [zTC,cP,aZ,LB]
def zCk(t w:Bl):Bk:=(t.filter λy=>!(aN w y.p).isSome && !HW w (lK t w) y.p).map λy=>lW y.p
def qN(t w:Bl):Bk:=iJ t (lK t w) w++zCk t w
theorem FH(a:OkT t)(b:OkT w)(e:En):e∈eW t w↔e∈qN t w:=by grind [qO,qN,zCk]
theorem AA(h:zC3 l):l.Nodup:=h.imp λ{a b} h e=>by subst e;rw[cD] at h;cases h
theorem zA2(c:OkT t)(d:OkT w):(qN t w).Nodup:=by
 unfold qN;refine o7.2 ⟨AA (XV d.srt),?_,λa f b g e=>?_⟩
 .have:(zCk t w).Pairwise λx y=>cC x.p y.p=true:=kp.2 ((c.srt.filter _).imp λh=>h);exact AA this
 .obtain⟨x,i,rfl⟩:=nC f;obtain⟨y,_,rfl⟩:=cg.1 g;injection e with _ h _ _;cases h
def leE(x y:En):Bool:=!cC y.p x.p
def JQ(l:Bk):Bk:=l.mergeSort leE
theorem zZ(l:Bk):(JQ l).Perm l:=l4 _ _
theorem zJA(l:Bk):(JQ l).length=l.length:=iq ..
theorem ZH(l:Bk):(JQ l).Pairwise λx y=>cC y.p x.p=false:=by grind [JQ,leE,List.pairwise_mergeSort,cO,fM,fL]
theorem zFz(c:∀x∈l,∀y∈l,x.p=y.p->x=y):∀x∈fG l,∀y∈fG l,ltOf cfI x y=false->ltOf cfI y x=false->x=y:=by
 rw[WV];intro x d y e h k;obtain⟨a,f,rfl⟩:=cg.1 d;obtain⟨b,g,rfl⟩:=cg.1 e;rw[c a f b g (fM h k)]
theorem zGE(l:Bk):(fG l).mergeSort (zAb (ltOf cfI))=fG (JQ l):=by
 rw[WV];exact(pj (r:=leE) (s:=zAb zSe) (f:=En.cs) (l:=l) λa _ b _=>rfl).symm
theorem WW(a:OkT t)(b:OkT w):∀x∈qN t w,∀y∈qN t w,x.p=y.p->x=y :=
 λx c y d e=>RR (qO a b).1 x ((FH a b x).2 c) y ((FH a b y).2 d) e
theorem zH9(f:OkT t)(g:OkT w):JQ (qN t w)=eW t w:=by
 obtain ⟨i,_⟩:=qO f g;have j:=WW f g;have d:(JQ (qN t w)).Nodup:=(zZ _).nodup_iff.2 (zA2 f g);have c:(JQ (qN t w)).Pairwise λx y=>cC x.p y.p=true:=by
  refine((ZH (qN t w)).and d).imp_of_mem λ{a b} m n h=>?_;grind [zZ,fM]
 exact oa (le:=λ(x y:En)=>cC x.p y.p=true) (λ_ _ _ _ h k=>by rw[fL h] at k;cases k) c i
  ((List.perm_ext_iff_of_nodup d (AA i)).2 λe=>(zZ _).mem_iff.trans (FH f g e).symm)
end
end Go.Dm
end
section
namespace Go.Dm
open Go
section
section
variable {P:Program}{T:Tab}{X0:Ctx}{Q:Be}
theorem zJH{c:Code}{s:DS}(id:Nat){k:Nat}{es:Bc}(l:Bc)(hb:s.h[id]?=some (.arr k es false))(W:nL es l)
  (h:SWP P X0 c ⟨s.n,s.t,s.h.set id (.arr k l false)⟩ Q):SWP P X0 c s Q:=by
 intro gd X a Y f hs I;have v:X.h[id]?=some (.arr k es false):=by rw[Y];exact hb
 have q:=W.len;have J:=f.blk id _ v;have x:=Step.refl f;have K:Step X ⟨X.w,X.S,X.G,X.h.set id (.arr k l false)⟩:=by
  refine⟨x.size,x.os,x.tape,x.output,x.kept,ql,λi m y b B=>?_,x.frame,λi r o b y H d=>?_,x.upper⟩
  .rcases cM b with⟨rfl,rfl,_⟩|⟨p,u⟩
   .exact⟨_,v,⟨rfl,qd⟩,rfl,λo d=>(f.blk _ _ v).same rfl o d⟩
   .exact⟨m,u,cX.refl B,rfl,λo d=>(f.blk i m u).same B o d⟩
  .rcases cM b with⟨rfl,rfl,_⟩|⟨p,u⟩
   .exact .inr ⟨_,_,o,v,rfl,rfl,d,rfl⟩
   .exact .inr ⟨i,r,o,u,y,H,d,rfl⟩
 have L:HInv ⟨X.w,X.S,X.G,X.h.set id (.arr k l false)⟩:=by
  refine⟨f.slt,λi r b=>?_,λi r o b y d=>?_,λi r M m N O b y H C D z A R=>?_⟩
  .rcases cM b with⟨rfl,rfl,_⟩|⟨p,u⟩
   .rcases J with⟨U,V⟩|⟨g,e,el,fz,U,V,h3,h4,h5⟩
    .exact .inl ⟨U,j0 (by rw[q,V];rfl)⟩
    .exact .inr ⟨g,e,el,fz,U,V,by rw[q];exact h3,h4,W.relL h5⟩
   .exact(f.blk i r u).move K rfl λ_ _=>rfl
  .rcases cM b with⟨rfl,rfl,_⟩|⟨p,u⟩
   .have:=f.own _ (.arr k es false) o v rfl d;exact this
   .exact f.own i r o u y d
  .rcases cM b with⟨rfl,rfl,_⟩|⟨p,E⟩<;>rcases cM C with⟨rfl,rfl,_⟩|⟨Z,F⟩
   .rfl
   .exact f.inj i _ M m N O v rfl rfl F D z A R
   .exact f.inj i r M _ N O E y H v rfl z A R
   .exact f.inj i r M m N O E y H F D z A R
 exact h gd ⟨X.w,X.S,X.G,X.h.set id (.arr k l false)⟩ a (by simp only[Y]) L (hs.trans f K) ⟨I.size,λj=>(I.rel j).step K,I.defs⟩
theorem ZV:∀e:List PV,zNS e e
 | []=>True.intro
 | _::e=>⟨.inl rfl,ZV e⟩
theorem HO:∀e:Bc,nL e e
 | []=>True.intro
 | e::a=>⟨ZV e,HO a⟩
theorem MW:∀{a b c d:Bc},nL a b->nL c d->nL (a++c) (b++d)
 | [],[],_,_,_,h=>h
 | _::_,_::_,_,_,e,f=>⟨e.1,MW e.2 f⟩
 | [],_::_,_,_,h,_=>h.elim
 | _::_,[],_,_,h,_=>h.elim
end
end
def zT4{P:Program}{f:FuncId}{h:aF}{i:Nat}{a c1:Bf}{x y:PV}{r:DV}{K:Bd}
  (b:aA P f [.c (.ptr 0 0),.c (.p x),.c (.p y)] [.box a] λd e=>d=r/\e=[.box c1])
  (g:h[i]?=some (.box a))(j:(a.all NT && (c1.all NT && zFT r))=true)(k:K r (h.set i (.box c1))):
  aA P f [.c (.ptr i 0),.c (.p x),.c (.p y)] h K:=aA.box (ps:=[x,y]) b g j k
end Go.Dm
end
section
namespace Go.Dm
open Go Go.MapKept Go.WideMaps Go.WideShapes
section
variable {k:Ba}{P:Program}{ks:List Ba}{w:World}{b:Nat}
def RT(k:Ba):Value:=.string ⟨k.toArray⟩
theorem zCU{k':Ba}(h:RT k=RT k'):k=k':=by grind [RT]
def wO(w:World)(b:Nat)(ks:List Ba):Prop:=∃c a,w.heap[b]?=some (.map c a) /\
 (∀e∈c.toList,∃k∈ks,e.key=RT k/\e.val=.bool true)/\∀k∈ks,k.length<=maxLen/\∃e∈c.toList,e.key=RT k
theorem wO.keys{d:TypeId}(f:P.underlying d=some .string){es:Array MapEntry}(h1:∀e∈es.toList,∃k∈ks,e.key=RT k/\e.val=.bool true)(g:∀k∈ks,k.length<=maxLen/\∃e∈es.toList,e.key=RT k):
  ∀e∈es.toList,∃l,keyOf P d e.key=some l:=λe h=>by
 obtain⟨k,a,c,_⟩:=h1 e h;rw[c];exact⟨_,keyOf_string_mk f (by show k.toArray.size<=maxLen;simpa using (g k a).1)⟩
theorem zMo{t c m:TypeId}(n:P.underlying t=some (.map c m))(d:P.underlying c=some .string)(s:(zeroValue m).run P w=.ok (.bool false) w)(h:wO w b ks)(u:k.length<=maxLen):
  (Instr.lookup t (.map (some b)) (RT k) false).run P w=.ok (.bool (ks.contains k)) w:=by
 obtain⟨x,f,p,q,y⟩:=h;have K:=string_law d;have a:keyOf P c (RT k)=some (.string k):=keyOf_string_mk d (by show k.toArray.size<=maxLen;simpa using u);rcases K.find w a x.toList (wO.keys d q y) with⟨f1,f2⟩|⟨j,e,f1,f2,f3⟩
 .have g:ks.contains k=false:=by
   grind
  rw[g];simp[Instr.lookup,run_underlying n,MapKept.run_getObj_map p,K.check w _ a,f1,s,Result.andThen]
 .obtain⟨r,z,i,l⟩:=q e (dr f2);have:r=k:=zCU (i.symm.trans f3);subst this;have g:ks.contains r=true:=qw
  rw[g];simp[Instr.lookup,run_underlying n,MapKept.run_getObj_map p,K.check w _ a,f1,l,Result.andThen]
theorem zPT{t p D:TypeId}(x:P.underlying t=some (.map p D))(q:P.underlying p=some .string)(h:wO w b ks)(E:k.length<=maxLen):
  ∃o,(Instr.mapUpdate t (.map (some b)) (RT k) (.bool true)).run P w=.ok () { w with heap:=w.heap.setIfInBounds b o }/\wO { w with heap:=w.heap.setIfInBounds b o } b (k::ks):=by
 obtain ⟨l,a,m,r,F⟩:=h;have K:=string_law q;have G:b<w.heap.size:=(im.1 m).1;have n:∀o:Obj,({ w with heap:=w.heap.setIfInBounds b o }:World).heap[b]?=some o:=λo=>by
  simp_all
 have c:keyOf P p (RT k)=some (.string k):=keyOf_string_mk q (by show k.toArray.size<=maxLen;simpa using E);rcases K.find w c l.toList (wO.keys q r F) with⟨f1,f2⟩|⟨j,e,f1,f2,f3⟩
 .refine ⟨.map (l.push { key:=RT k,val:=.bool true,born:=a }) (a+1),?_,_,_,n _,λe y=>?_,λd f=>?_⟩
  .simp[Instr.mapUpdate,run_underlying x,MapKept.run_getObj_map m,K.check w _ c,f1,MapKept.run_setObj_map _ m,Result.andThen]
  .grind
  .rcases bx.1 f with rfl|f
   .simp_all
   .simp_all
 .have z:l[j]?=some e:=by simpa using f2
  obtain⟨d,f,s,H⟩:=r e (dr f2);have:d=k:=zCU (s.symm.trans f3);subst this;refine⟨.map (l.modify j λe=>{ e with key:=RT d,val:=.bool true }) a,?_,_,_,n _,λI y=>?_,λk2 J=>?_⟩
  .have L:(Instr.keyThatStays (RT d) (RT d)).run P w=.ok (RT d) w:=K.stays w c;simp[Instr.mapUpdate,run_underlying x,MapKept.run_getObj_map m,K.check w _ c,f1,z,f3,L,MapKept.run_setObj_map _ m,Result.andThen]
  .obtain ⟨i,g⟩:=eh.1 y;rw[jl,ia] at g;split at g
   .grind
   .obtain⟨k2,A,B⟩:=r I (eh.2 ⟨i,by rw[jl];exact g⟩)
    grind
  .have key:k2.length<=maxLen/\∃e∈l.toList,e.key=RT k2:=by
    grind
   obtain⟨A,M,B,C⟩:=key;refine⟨A,?_⟩;obtain⟨i,g⟩:=eh.1 B;rw[jl] at g;by_cases u:j=i
   .subst u;rw[z] at g;cases g;refine⟨{ e with key:=RT d,val:=.bool true },eh.2 ⟨j,?_⟩,f3.symm.trans C⟩;simp_all
   .refine⟨M,eh.2 ⟨i,?_⟩,C⟩;simp_all
def uJ(X:Ctx)(b:Nat):Prop:=b<X.w.heap.size/\¬ X.S b/\∀id a g,X.h[id]?=some a->a.live=true->X.G id=some g->g.1≠b
theorem uJ.step{X c:Ctx}(q:uJ X b)(l:HInv c)(j:Step X c):uJ c b/\c.w.heap[b]?=X.w.heap[b]? := by
 obtain ⟨m,r,s⟩:=q;have n:¬ c.S b:=λh=>by
  rcases j.upper b h with h|h|⟨id,a,g,d,f,i,e⟩
  .exact r h
  .omega
  .grind
 refine⟨⟨iv m j.size,n,λid a g d f i e=>?_⟩,j.frame b m λid a g d f _ i=>s id a g d f i⟩;cases p:a.fix
 .rcases j.mine id a g d f p i with h|⟨t,u,A,x,y,_,z,B⟩
  .omega
  .grind
 .exact n (e▸(l.own id a g d f i).2 p)
theorem wO.same{w':World}(h:wO w b ks)(e:w'.heap[b]?=w.heap[b]?):wO w' b ks:=by
 obtain⟨a,c,d,f⟩:=h;exact⟨a,c,e.trans d,f⟩
section put
variable {X:Ctx}{b:Nat}{o:Obj}
variable {v:Value}
def Ctx.setB(X:Ctx)(b:Nat)(o:Obj):Ctx:=X.at_ { X.w with heap:=X.w.heap.setIfInBounds b o }
theorem sV{c:Nat}(h:c≠b):(X.setB b o).w.heap[c]?=X.w.heap[c]? := by
 show (X.w.heap.setIfInBounds b o)[c]? = _;grind
theorem pJ(d:uJ X b):uK X.w (X.setB b o).w X.S X.S:=λc a=>⟨a,sV λe=>d.2.1 (e▸a)⟩
theorem zJa(a:uJ X b){x:KV}(h:rO X x v):rO (X.setB b o) x v:=by
 cases x<;>simp only[rO] at h ⊢
 case p=>exact dO.kept (pJ a) h
 case ptr=>exact h
theorem LZ(a:uJ X b):∀{c:List KV} {vs:Bb},gI X c vs->gI (X.setB b o) c vs
 | [],[],_=>True.intro
 | _::_,_::_,h=>⟨zJa a h.1,LZ a h.2⟩
 | [],_::_,h=>h.elim
 | _::_,[],h=>h.elim
theorem xV(i:uJ X b){x:CV}(h:cJ X x v):cJ (X.setB b o) x v:=by
 cases x<;>simp only[cJ] at h ⊢
 case p=>exact dO.kept (pJ i) h
 case own id c len =>
  obtain⟨e,d,f⟩:=h;refine⟨e,d,λk u y s=>?_⟩;obtain⟨j,l⟩:=f k u y s;refine⟨j,?_⟩;show match X.G id with|none=>_|some g=>_
  cases t:X.G id with
  | none=>simp_all
  | some g =>
   rw[t] at l;obtain⟨m,q,n,z,A,B,C⟩:=l;exact⟨m,q,n,z,A,(sV (i.2.2 id _ g s rfl t)).trans B,C⟩
 case ptr=>exact h
 case aptr=>exact h
 case mp=>exact h
 case bs=>exact h
 case eptr =>
  obtain⟨r,c,e,d,f⟩:=h;exact⟨r,c,e,d,jC.kept (pJ i) d f⟩
 case full =>
  obtain⟨a,e,d⟩:=h;refine⟨a,e,d.imp id ?_⟩;rintro⟨r,c,f,j,l⟩;exact⟨r,c,f,j,hD.kept (pJ i) j l⟩
 grind [LZ]
theorem zQ(a:uJ X b):∀{c:Bf} {vs:Bb},bP X c vs->bP (X.setB b o) c vs
 | [],[],_=>True.intro
 | _::_,_::_,h=>⟨xV a h.1,zQ a h.2⟩
 | [],_::_,h=>h.elim
 | _::_,[],h=>h.elim
theorem zEr(a:uJ X b){x:EV}(h:fK X x v):fK (X.setB b o) x v:=by
 cases x<;>simp only[fK] at h ⊢
 case c=>exact xV a h
 grind [zQ]
theorem GM(a:uJ X b):∀{c:Bj} {vs:Bb},cY X c vs->cY (X.setB b o) c vs
 | [],[],_=>True.intro
 | _::_,_::_,h=>⟨zEr a h.1,GM a h.2⟩
 | [],_::_,h=>h.elim
 | _::_,[],h=>h.elim
theorem zI9(a:uJ X b){x:DV}(h:bH X x v):bH (X.setB b o) x v:=by
 cases x<;>simp only[bH] at h ⊢
 case c=>exact xV a h
 case agg=>obtain⟨d,e,f⟩:=h;exact⟨d,e,zQ a f⟩
 grind [GM]
theorem zI8(e:uJ X b){id:Nat}{db:DB}(m:X.h[id]?=some db)(h:fI X id db):fI (X.setB b o) id db:=by
 cases db<;>simp only[fI] at h ⊢
 case box =>
  obtain⟨g,arr,n,p,a,f,i,l,q⟩:=h;have d:(X.setB b o).w.heap[g.1]?=X.w.heap[g.1]? := sV (e.2.2 id _ g m rfl a);refine⟨g,arr,n,p,a,d.trans f,i,l,cR.mk λj c r=>?_⟩;obtain⟨v,t,u⟩:=q.at_ r;grind [World.cell?_of_block,xV]
 case arr =>
  rcases h with h|⟨g,arr,n,p,a,f,i,l,q⟩
  .exact .inl h
  .have d:(X.setB b o).w.heap[g.1]?=X.w.heap[g.1]? := sV (e.2.2 id _ g m rfl a);exact .inr ⟨g,arr,n,p,a,d.trans f,i,l,q.move (pJ e) d⟩
 case mp =>
  obtain⟨g,s,c,a,f,i,l⟩:=h;have d:(X.setB b o).w.heap[g.1]?=X.w.heap[g.1]? := sV (e.2.2 id _ g m rfl a);exact⟨g,s,c,a,d.trans f,i.kept (pJ e),l⟩
theorem HInv.setB(hi:HInv X)(a:uJ X b):HInv (X.setB b o) where
 slt:=λc d=>by
  show c<(X.w.heap.setIfInBounds b o).size;rw[p9];exact hi.slt c d
 blk:=λid e h=>zI8 a h (hi.blk id e h)
 own:=hi.own
 inj:=hi.inj
theorem uJ.setB(a:uJ X b):uJ (X.setB b o) b :=
 ⟨by show b<(X.w.heap.setIfInBounds b o).size;rw[p9];exact a.1,a.2⟩
theorem Step.setB{X0:Ctx}(a:Step X0 X)(t:X0.w.heap.size<=b)(h:uJ X b):Step X0 (X.setB b o) where
 size:=by
  show _<=(X.w.heap.setIfInBounds b o).size;rw[p9];exact a.size
 os:=a.os
 tape:=a.tape
 output:=a.output
 kept:=λc d=>⟨(a.kept c d).1,(sV (show c≠b from λe=>h.2.1 (e▸(a.kept c d).1))).trans (a.kept c d).2⟩
 len:=a.len
 ids:=λid f hid i j=>by
  obtain⟨n,p,q,l,r⟩:=a.ids id f hid i j;exact⟨n,p,q,l,λg m=>by rw[sV (h.2.2 id f g i j (l.trans m))];exact r g m⟩
 frame:=λc d s=>(sV qd).trans (a.frame c d s)
 mine:=a.mine
 upper:=a.upper
theorem TInv.setB{s:DS}{a:Act}(d:uJ X b)(c:TInv X s a):TInv (X.setB b o) s a:=⟨c.size,λi=>zI9 d (c.rel i),c.defs⟩
end put
end
end Go.Dm
end
