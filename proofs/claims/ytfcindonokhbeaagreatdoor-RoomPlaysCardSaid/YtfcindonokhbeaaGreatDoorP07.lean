/- Part 8 of roomPlays_card. No condition. -/
import Derived.Sort.Grow
import Derived.Sort.Row
import Derived.Sort.EncStr
import Derived.Lib.SlicesCompact
import Derived.Laws.AppendOwn
import Derived.Test.YtfcindonokhbeaaGreatDoorP06
import Derived.Shelf.Small.Strs
import Derived.Lib.SplitLaws
import Derived.Lib.LastIndexByte
import Derived.Lib.Strings
import Derived.Lib.Bytes
import Derived.HandedShaped
import Derived.Lay
import Derived.SizedLaws
set_option linter.all false
set_option maxRecDepth 100000
set_option maxHeartbeats 0
section
section
section
namespace Go.Dm
open Go Go.Proofs Go.Sort
def xW{w:World}{S:Nat->Prop}{bl:Nat}:∀{ss:List Ba} {off:Nat},hD w S 1 bl off (encS ss)↔∀j (b:j<ss.length),w.cell? ⟨bl,off+j,none⟩=some (.string ⟨ss[j].toArray⟩)
 | [],off=>by simp[encS,hD]
 | a::ss,off=>by
  have c:=@xW w S bl ss (off+1);show ((([PV.s a]:List PV).length=1/\jC w S bl off [.s a])/\hD w S 1 bl (off+1) (encS ss))↔_;rw[c];simp only[jC,dO,bw,da,jw,i6];constructor
  .grind
  .intro h;refine⟨⟨_,by simpa using h 0 ql,rfl⟩,λj b=>?_⟩
   grind
def CI{w:World}{os:Array Obj}{b:Nat}(a:b<w.heap.size):(grow w os).heap[b]?=w.heap[b]? := by grind [grow]
def yP.lt{w:World}{b:Nat}{o:Option Obj}(h:yP (w.heap[b]?) o):b<w.heap.size:=by
 obtain⟨x,a⟩:=h.some;grind
def Step.grew{X:Ctx}(hi:HInv X)(os:Array Obj):Step X (X.at_ (grow X.w os)) where
 size:=by simp only[Ctx.at_,grow,l6];omega
 os:=rfl
 tape:=rfl
 output:=wP.rfl'
 kept:=λb c=>⟨c,CI (hi.slt b c)⟩
 len:=bg _
 ids:=λid a _ h d=>⟨a,h,cX.refl d,rfl,λg e=>by
  have f:=(hi.blk id a h).same d g e;rw[show (X.at_ (grow X.w os)).w.heap[g.1]?=X.w.heap[g.1]? from CI f.lt];exact f⟩
 frame:=λb c _=>CI c
 mine:=λid i g h d j e=>.inr ⟨id,i,g,h,d,j,e,rfl⟩
 upper:=λ_ h=>.inl h
def HInv.grew{X:Ctx}(hi:HInv X)(os:Array Obj):HInv (X.at_ (grow X.w os)) where
 slt:=λb c=>by have:=hi.slt b c;simp only[Ctx.at_,grow,l6];omega
 blk:=λid a h=>by
  by_cases d:a.live=true
  .exact(hi.blk id a h).move (Step.grew hi os) rfl λg e=>CI ((hi.blk id a h).same d g e).lt
  .grind [DB.live,fI]
 own:=hi.own
 inj:=hi.inj
def KN{w:World}{S:Nat->Prop}{bl off:Nat}{ss:List Ba}{a:Array Value}{c:TypeId}{b:Nat × Nat}(f:w.heap[bl]?=some (.cells a c b))(d:zBN b off a.size)(g:off+ss.length<=a.size)(h:hD w S 1 bl off (encS ss)):Holds encStr w bl off ss.toArray:=by
 intro j i;have e:j<ss.length:=qd
 refine⟨?_,?_⟩
 .grind [xW.1]
 .have:=d.at_ (off+j) qd qd;grind [World.frozen?]
def vD{w:World}{n bl off:Nat}{d:Array Ba}{a:Array Value}{c:TypeId}{e:Nat × Nat}(g:w.heap[bl]?=some (.cells a c e)):Touched w (putRow encStr (Sort.ahead w n) bl off d) bl where
 os:=rfl
 tape:=rfl
 output:=⟨rfl,nz _ _⟩
 size:=ql
 other:=λb f=>by simp[putRow,mapBlock,ia,Ne.symm f]
 here:=.inl ⟨a,c,e,putCells encStr off d a,c,e,g,by simp[putRow,mapBlock,ia,g,onCells],by simp[putCells]⟩
def zAu{P:Program}{f:FuncId}(B:∀(vals:Bb) (w:World),(callFunc f vals.toArray).run P w=.ok (.enter f vals.toArray) w)
  (V:∀(i off cap:Nat) (ss:List Ba) (w:World),Holds encStr w i off ss.toArray->i<w.heap.size->ss.length<4611686018427387904 ->
   Calls P f #[.slice (some ⟨i,off,none⟩) ss.length cap] w λe w'=>e=.returned (.tuple #[])/\∃n os,w'=grow (putRow encStr (Sort.ahead w n) i off (ss.mergeSort λx y=>decide (x<=y)).toArray) os)
  (W:∀(p:Option Addr) (cap:Nat) (w:World),Calls P f #[.slice p 0 cap] w λe w'=>e=.returned (.tuple #[])/\w'=w)
  {h:aF}{id:Nat}{ss:List Ba}(hid:h[id]?=some (.arr 1 (encS ss) false))(C:ss.length<4611686018427387904):
  aA P f [.c (.own id 0 ss.length)] h λd D=>d=.tup []/\D=h.set id (.arr 1 (encS (ss.mergeSort λx y=>decide (x<=y))) false):=by
 intro X vals Y t gd E;subst Y;obtain⟨v,rfl,Z⟩:∃v,vals=[v]/\bH X (.c (.own id 0 ss.length)) v:=by
  cases vals with
  | nil=>exact E.elim
  | cons v vs=>cases vs with
   | nil=>exact⟨v,rfl,E.1⟩
   | cons _ _=>exact E.2.elim
 refine .inl ⟨B _ _,?_⟩;obtain⟨h1,h2,h3⟩:=Z;obtain⟨h4,r⟩:=h3 _ _ _ hid;have b:=t.blk id _ hid;have e0:ss=[]->X.h.set id (.arr 1 (encS (ss.mergeSort λx y=>decide (x<=y))) false)=X.h:=by
  rintro rfl;rw[o5];exact(bz.1 hid).elim λm he=>by rw[<- he];exact kj m
 have k:ss=[]->∀(p:Option Addr) (cap:Nat),v=.slice p 0 cap->Calls P f [v].toArray X.w λe w'=>∃v,e=.returned v/\Ret X (λd D=>d=.tup []/\D=X.h.set id (.arr 1 (encS (ss.mergeSort λx y=>decide (x<=y))) false)) v w':=by
  rintro F p cap rfl;refine(W p cap X.w).mono ?_;rintro e w' ⟨rfl,rfl⟩;exact⟨_,rfl,.tup [],X,rfl,t,Step.refl t,⟨[],rfl,True.intro⟩,rfl,(e0 F).symm⟩
 cases l:X.G id with
 | none =>
  rw [l] at r;simp only at r;have F:ss=[]:=by
   rcases b with b|⟨g,_,_,_,b,_⟩
   .simpa[encS] using b.2
   .rw[l] at b;cases b
  exact k F _ _ r
 | some g =>
  rw[l] at r;simp only at r;obtain⟨cap,o,a,el,fz,s,H,I,k4,k5,k6⟩:=r;by_cases N:ss.length=0
  .rw[N] at H;exact k (j8.1 N) _ _ H
  .have ho:o=g.2:=by rcases I with I|I<;>omega
   subst ho;rcases b with b|⟨g',O,el',fz',Q,R,J,S,b5⟩
   .rw[l] at b;cases b.1
   rw [l] at Q;cases Q;rw[s] at R;cases R;rw[encS_len,kh] at J;have T:=KN s S.1 J b5;have m:g.1<X.w.heap.size:=by
    rcases cc g.1 X.w.heap.size with b|b
    .exact b
    .rw[jx b] at s;cases s
   subst H;refine(V g.1 g.2 cap ss X.w T m C).mono ?_;rintro e w' ⟨rfl,n,os,rfl⟩;generalize K:(ss.mergeSort λx y=>decide (x<=y))=st;have u:st.length=ss.length:=by rw[<- K];exact iq ..
   have U:=vD (n:=n) (off:=g.2) (d:=st.toArray) s;have z:cX (.arr 1 (encS ss) false) (.arr 1 (encS st) false):=⟨rfl,by rw[encS_len,encS_len];omega⟩
   have L:fI (X.put (putRow encStr (Sort.ahead X.w n) g.1 g.2 st.toArray) id (.arr 1 (encS st) false)) id (.arr 1 (encS st) false):=by
    refine .inr ⟨g,putCells encStr g.2 st.toArray a,el,fz,l,by simp[Ctx.put,putRow,mapBlock,ia,s,onCells],?_,?_,?_⟩
    .rw[encS_len,kh,u];simpa[putCells] using J
    .simpa[putCells] using S
    .refine xW.2 λj A=>?_;have:=cell?_putRow encStr (Sort.ahead X.w n) g.1 g.2 ss.toArray st.toArray (λj A=>T j A) (by simpa using u) j (by simpa using A);show (putRow encStr (Sort.ahead X.w n) g.1 g.2 st.toArray).cell? _=_;rw[this];simp[A]
   have q:=HInv.put t hid rfl rfl l U z rfl L;have M:=Step.put t hid rfl rfl l U z rfl;exact⟨_,rfl,.tup [],_,rfl,HInv.grew q os,M.trans q (Step.grew q os),⟨[],rfl,True.intro⟩,rfl,rfl⟩
def HX{P:Program}{f:FuncId}(E:∀(vals:Bb) (w:World),(callFunc f vals.toArray).run P w=.ok (.enter f vals.toArray) w)
  (hS:∀(m off cap:Nat) (ss:List Ba) (w:World),Holds encStr w m off ss.toArray->ss.length<=9223372036854775807->ss.length<=cap ->
   Calls P f #[.slice (some ⟨m,off,none⟩) ss.length cap] w λe w'=>e=.returned (.slice (some ⟨m,off,none⟩) (Lib.compact ss).length cap)/\∃q,w'=putRow encStr (Sort.ahead w q) m off (Lib.compact ss++List.replicate (ss.length-(Lib.compact ss).length) []).toArray)
  (hN:∀(p:Option Addr) (cap:Nat) (w:World),Calls P f #[.slice p 0 cap] w λe w'=>e=.returned (.slice p 0 cap)/\w'=w)
  {h:aF}{id:Nat}{ss:List Ba}(hid:h[id]?=some (.arr 1 (encS ss) false))(hsz:ss.length<4611686018427387904)(x:∀l:List Ba,(Lib.compact l).length<=l.length):
  aA P f [.c (.own id 0 ss.length)] h λd F=>d=.c (.own id 0 (Lib.compact ss).length)/\F=h.set id (.arr 1 (encS (Lib.compact ss++List.replicate (ss.length-(Lib.compact ss).length) [])) false):=by
 intro X vals hh y gd H;subst hh;obtain⟨v,rfl,hv⟩:∃v,vals=[v]/\bH X (.c (.own id 0 ss.length)) v:=by
  cases vals with
  | nil=>exact H.elim
  | cons v vs=>cases vs with
   | nil=>exact⟨v,rfl,H.1⟩
   | cons _ _=>exact H.2.elim
 refine .inl ⟨E _ _,?_⟩;obtain⟨S,h2,T⟩:=hv;obtain⟨h4,u⟩:=T _ _ _ hid;have b:=y.blk id _ hid;have e0:ss=[]->X.h.set id (.arr 1 (encS (Lib.compact ss++List.replicate (ss.length-(Lib.compact ss).length) [])) false)=X.h:=by
  rintro rfl;rw[show (Lib.compact []++List.replicate (List.length ([]:List Ba)-(Lib.compact ([]:List Ba)).length) []:List Ba)=[] from rfl]
  exact(bz.1 hid).elim λz I=>by rw[<- I];exact kj z
 have s:ss=[]->∀(p:Option Addr) (cap:Nat),v=.slice p 0 cap->Calls P f [v].toArray X.w λe w'=>∃v,e=.returned v/\Ret X (λd F=>d=.c (.own id 0 (Lib.compact ss).length)/\F=X.h.set id (.arr 1 (encS (Lib.compact ss++List.replicate (ss.length-(Lib.compact ss).length) [])) false)) v w':=by
  rintro C p cap rfl;refine(hN p cap X.w).mono ?_;rintro e w' ⟨rfl,rfl⟩;refine⟨_,rfl,.c (.own id 0 (Lib.compact ss).length),X,rfl,y,Step.refl y,?_,rfl,(e0 C).symm⟩;subst C;exact⟨S,h2,T⟩
 cases r:X.G id with
 | none =>
  rw [r] at u;simp only at u;have C:ss=[]:=by
   rcases b with b|⟨g,_,_,_,b,_⟩
   .simpa[encS] using b.2
   .rw[r] at b;cases b
  exact s C _ _ u
 | some g =>
  rw[r] at u;simp only at u;obtain⟨cap,o,a,U,V,t,J,K,k4,k5,k6⟩:=u;by_cases W:ss.length=0
  .rw[W] at J;exact s (j8.1 W) _ _ J
  .have ho:o=g.2:=by rcases K with K|K<;>omega
   subst ho;rcases b with b|⟨g',Y,el',fz',Z,b2,L,b4,b5⟩
   .rw[r] at b;cases b.1
   rw [r] at Z;cases Z;rw[t] at b2;cases b2;rw[encS_len,kh] at L;have hH:=KN t b4.1 L b5;have z:g.1<X.w.heap.size:=by
    rcases cc g.1 X.w.heap.size with b|b
    .exact b
    .rw[jx b] at t;cases t
   subst J;refine(hS g.1 g.2 cap ss X.w hH qd k4).mono ?_;rintro e w' ⟨rfl,n,rfl⟩;generalize M:(Lib.compact ss++List.replicate (ss.length-(Lib.compact ss).length) [])=i;have A:i.length=ss.length:=by rw[<- M];have:=x ss;simp;omega
   have ht:=vD (n:=n) (off:=g.2) (d:=i.toArray) t;have B:cX (.arr 1 (encS ss) false) (.arr 1 (encS i) false):=⟨rfl,by rw[encS_len,encS_len];omega⟩
   have N:fI (X.put (putRow encStr (Sort.ahead X.w n) g.1 g.2 i.toArray) id (.arr 1 (encS i) false)) id (.arr 1 (encS i) false):=by
    refine .inr ⟨g,putCells encStr g.2 i.toArray a,U,V,r,by simp[Ctx.put,putRow,mapBlock,ia,t,onCells],?_,?_,?_⟩
    .rw[encS_len,kh,A];simpa[putCells] using L
    .simpa[putCells] using b4
    .refine xW.2 λj D=>?_;have:=cell?_putRow encStr (Sort.ahead X.w n) g.1 g.2 ss.toArray i.toArray (λj D=>hH j D) (by simpa using A) j (by simpa using D);show (putRow encStr (Sort.ahead X.w n) g.1 g.2 i.toArray).cell? _=_;rw[this];simp[D]
   have O:=HInv.put y hid rfl rfl r ht B rfl N;have Q:=Step.put y hid rfl rfl r ht B rfl;refine⟨_,rfl,.c (.own id 0 (Lib.compact ss).length),_,rfl,O,Q,⟨by simpa[Ctx.put] using S,rfl,λk es ro hd=>?_⟩,rfl,rfl⟩
   rcases cM hd with⟨_,I,_⟩|⟨R,_⟩
   .cases I;have:=x ss;refine⟨by rw[encS_len];omega,?_⟩
    rw[show (X.put (putRow encStr (Sort.ahead X.w n) g.1 g.2 i.toArray) id (.arr 1 (encS i) false)).G id=some g from r]
    refine⟨cap,g.2,putCells encStr g.2 i.toArray a,U,V,by simp[Ctx.put,putRow,mapBlock,ia,t,onCells],rfl,.inr qd,qd,k5,by simpa[putCells] using k6⟩
   .exact absurd rfl R
end Go.Dm
end
section
namespace Go.Dm
open Go Go.Lib Go.Proofs
def qA{P:Program}{T:Tab}(t:bQ P T){f:FuncId}{e:Nat}(y:(T e).k≠.no)(R:0<(T e).size)
  (l:∀(vals:Bb) (w:World),(callFunc f vals.toArray).run P w=.ok (.enter f vals.toArray) w)
  (A:∀w:World,Calls P f #[.slice none 0 0,.int .i64 (0:Nat)] w λe w'=>e=.returned (.slice none 0 0)/\w'=w)
  (B:∀(i0:TypeInfo) (z:Value) (n:Nat) (w:World),P.info? e=some i0->i0.zero=some z->0<i0.size->0<n->n*i0.bytes<=140737488355328->n<=4611686018427387904 ->
   Calls P f #[.slice none 0 0,.int .i64 n] w λr w'=>r=.returned (.slice (some ⟨w.heap.size,0,none⟩) 0 (grownCap w n 0 e)) /\
    w'=w.drew.alloc (.cells (#[]++Builtin.zeroCells z.cells n++Builtin.zeroCells z.cells (grownCap w n 0 e-n)) e))
  {h:aF}{n:Nat}(C:n*(T e).bytes<=140737488355328)(D:n<=4611686018427387904):
  aA P f [.c (.p .nil),.c (.p (.i .i64 n))] h λd E=>d=.c (.own h.length 0 0)/\E=h++[.arr (T e).size [] false]:=by
 intro X vals F s S a;subst F;obtain⟨rfl⟩:vals=[.slice none 0 0,.int .i64 n]:=by
  cases vals with
  | nil=>exact a.elim
  | cons v vs=>cases vs with
   | nil=>exact a.2.elim
   | cons u G=>cases G with
    | cons _ _=>exact a.2.2.elim
    | nil =>
     have m:v=.slice none 0 0:=a.1;have o:u=.int .i64 n:=a.2.1;rw[m,o]
 refine .inl ⟨l _ _,?_⟩;rcases ot n with rfl|H
 .refine(A X.w).mono ?_;rintro e w' ⟨rfl,rfl⟩;obtain⟨m,o⟩:=virt s (T _).size;exact⟨_,rfl,.c (.own X.h.length 0 0),X.virt _,rfl,o,m,kT rfl,rfl,rfl⟩
 .obtain ⟨_,i,z,I,U,J,K,V,W,Y,Z⟩:=cI t y;have L:z.cells.size=(T e).size:=by grind [List.length_map]
  refine(B i z n X.w I K qd H (by rw[J];exact C) D).mono ?_;rintro r w' ⟨rfl,rfl⟩;have q:=grownCap_ge X.w n 0 e;have b:=grownCap_le_maxLen X.w n 0 e ra;generalize grownCap X.w n 0 e=c at q b;have g:=(Grew.alloc X.w.drew (.cells (#[]++Builtin.zeroCells z.cells n++Builtin.zeroCells z.cells (c-n)) e)).drew;obtain⟨M,N⟩:=vZ (k:=(T e).size) (es:=[]) (vs:=[]) s g (λx O=>by simp at O) True.intro (λj v Q=>by simp at Q) ql (wM.zero _ _ _)
  exact ⟨_,rfl,_,_,rfl,N,M,wC (k:=(T e).size) (es:=[]) g ql qd b (by
   have hq:n*(T e).size+(c-n)*(T e).size=c*(T e).size:=by rw[<- ez];congr 1;omega
   simp only[l6,size_zeroCells,L,jz,da];omega),rfl,rfl⟩
end Go.Dm
end
section
namespace Go.Dm
open Go Go.Proofs
def iX {P:Program} {f:FuncId} {a:Func} {c:Code} (b:P.funcs[f]?=some a) (d:a.body=some c) (e:(a.name == "runtime.NumGoroutine")=false) (vals:Bb) (w:World):(callFunc f vals.toArray).run P w=.ok (.enter f vals.toArray) w:=by simp_all[callFunc]
def zAv{P:Program}{f:FuncId}{g:Ba->Ba->Int}(j:∀(vals:Bb) (w:World),(callFunc f vals.toArray).run P w=.ok (.enter f vals.toArray) w)
  (l:∀(a b:ByteArray) (w:World),Calls P f #[.string a,.string b] w λe w'=>e=.returned (.int .i64 (g a.data.toList b.data.toList))/\w'=w){a b:Ba}:
  aA P f [.c (.p (.s a)),.c (.p (.s b))] [] λr h=>r=.c (.p (.i .i64 (g a b)))/\h=[]:=by
 intro X vals m k x d;obtain⟨rfl⟩:vals=[.string ⟨a.toArray⟩,.string ⟨b.toArray⟩]:=by
  cases vals with
  | nil=>exact d.elim
  | cons v n=>cases n with
   | nil=>exact d.2.elim
   | cons u o=>cases o with
    | cons _ _=>exact d.2.2.elim
    | nil =>
     have q:v=.string ⟨a.toArray⟩:=d.1;have t:u=.string ⟨b.toArray⟩:=d.2.1;rw[q,t]
 refine .inl ⟨j _ _,(l _ _ X.w).mono ?_⟩;rintro e w' ⟨rfl,rfl⟩;exact⟨_,rfl,.c (.p (.i .i64 (g a b))),X,rfl,k,Step.refl k,rfl,rfl,m⟩
def HP(a b:Ba):Int:=if cC a b then -1 else if a==b then 0 else 1
def rS{a b:Ba}:decide (HP a b<0)=cC a b:=by grind [HP]
def NO{a b:Ba}:(HP a b==0)=(a==b):=by grind [HP,mO]
def rT:∀a b:Ba,Lib.compareBytes a b=HP a b
 | [],[]=>rfl
 | [],_::_=>rfl
 | _::_,[]=>by simp[Lib.compareBytes,HP,NI]
 | x::a,y::b=>by
  have c:=rT a b;grind [Lib.compareBytes,HP,wT]
end Go.Dm
end
end
section
namespace Go.Dm
open Go Go.Proofs
def HY{P:Program}{f:FuncId}{g:Ba->Ba->Bool}(i:∀(vals:Bb) (w:World),(callFunc f vals.toArray).run P w=.ok (.enter f vals.toArray) w)
  (k:∀(a b:ByteArray) (w:World),Calls P f #[.string a,.string b] w λe w'=>e=.returned (.bool (g a.data.toList b.data.toList))/\w'=w){a b:Ba}:
  aA P f [.c (.p (.s a)),.c (.p (.s b))] [] λr h=>r=.c (.p (.b (g a b)))/\h=[]:=by
 intro X vals l j t d;obtain⟨rfl⟩:vals=[.string ⟨a.toArray⟩,.string ⟨b.toArray⟩]:=by
  cases vals with
  | nil=>exact d.elim
  | cons v m=>cases m with
   | nil=>exact d.2.elim
   | cons u n=>cases n with
    | cons _ _=>exact d.2.2.elim
    | nil =>
     have o:v=.string ⟨a.toArray⟩:=d.1;have q:u=.string ⟨b.toArray⟩:=d.2.1;rw[o,q]
 refine .inl ⟨i _ _,(k _ _ X.w).mono ?_⟩;rintro e w' ⟨rfl,rfl⟩;exact⟨_,rfl,.c (.p (.b (g a b))),X,rfl,j,Step.refl j,rfl,rfl,l⟩
def uT{P:Program}{f:FuncId}{g:Ba->Int->Int}{N:Nat}(d:∀(vals:Bb) (w:World),(callFunc f vals.toArray).run P w=.ok (.enter f vals.toArray) w)
  (k:∀(a:Ba) (c:Int) (w:World),a.length<N->Calls P f #[.string ⟨a.toArray⟩,.int .u8 c] w λe w'=>e=.returned (.int .i64 (g a c))/\w'=w){a:Ba}{c:Int}(l:a.length<N):
  aA P f [.c (.p (.s a)),.c (.p (.i .u8 c))] [] λr h=>r=.c (.p (.i .i64 (g a c)))/\h=[]:=by
 intro X vals m j x b;obtain⟨rfl⟩:vals=[.string ⟨a.toArray⟩,.int .u8 c]:=by
  cases vals with
  | nil=>exact b.elim
  | cons v n=>cases n with
   | nil=>exact b.2.elim
   | cons u o=>cases o with
    | cons _ _=>exact b.2.2.elim
    | nil =>
     have q:v=.string ⟨a.toArray⟩:=b.1;have t:u=.int .u8 c:=b.2.1;rw[q,t]
 refine .inl ⟨d _ _,(k _ _ X.w l).mono ?_⟩;rintro e w' ⟨rfl,rfl⟩;exact⟨_,rfl,.c (.p (.i .i64 (g a c))),X,rfl,j,Step.refl j,rfl,rfl,m⟩
def MB{w:World}{S:Nat->Prop}{bl:Nat}:∀(d:Ba) (off:Nat),hD w S 1 bl off (bS d)->∀i,i<d.length->w.cell? ⟨bl,off+i,none⟩=some (.int .u8 ((d.map λb=>(b.toNat:Int)).getD i 0))
 | [],_,_,i,a=>by simp_all
 | b::d,off,h,0,_=>by
  obtain⟨⟨_,⟨v,c,e⟩,_⟩,_⟩:=h;rw[je,c,show v=.int .u8 b.toNat from e];rfl
 | b::d,off,h,i+1,a=>by
  have:=MB d (off+1) h.2 i (by simpa using a);grind
def DU{P:Program}{f:FuncId}{g:Ba->Int->Int}(m:∀(vals:Bb) (w:World),(callFunc f vals.toArray).run P w=.ok (.enter f vals.toArray) w)
  (s:∀(a:Addr) (n c:Nat) (o:List Int) (cv:Int) (w:World),o.length=n->(∀i,i<n->w.cell? (a.add i)=some (.int .u8 (o.getD i 0)))->Calls P f #[.slice (some a) n c,.int .u8 cv] w λe w'=>e=.returned (.int .i64 (g (Lib.bytesOf o) cv))/\w'=w)
  {d:Ba}{c:Int}(G:d≠[]):aA P f [.c (.p (.sl 1 (bS d))),.c (.p (.i .u8 c))] [] λr h=>r=.c (.p (.i .i64 (g d c)))/\h=[]:=by
 intro X vals t l H j;obtain⟨v,rfl,x⟩:∃v,vals=[v,.int .u8 c]/\dO X.w X.S (.sl 1 (bS d)) v:=by
  cases vals with
  | nil=>exact j.elim
  | cons v y=>cases y with
   | nil=>exact j.2.elim
   | cons u z=>cases z with
    | cons _ _=>exact j.2.2.elim
    | nil =>
     have A:u=.int .u8 c:=j.2.1;rw[A];exact⟨v,rfl,j.1⟩
 obtain⟨a,q,rfl,_,B|⟨C,k,rfl,_,D⟩⟩:=x
 .cases d with
  | nil=>simp_all
  | cons _ _=>cases B
 have E:Lib.bytesOf (d.map λb:UInt8=>(b.toNat:Int))=d:=by simp_all[Lib.bytesOf,nh]
 refine .inl ⟨m _ _,(s ⟨C,k,none⟩ _ q (d.map λb:UInt8=>(b.toNat:Int)) c X.w rm (λi l=>by
  have F:=MB d k D i (by simpa[bS] using l);simp only[Addr.add];split
  .simp_all
  .exact F)).mono ?_⟩
 rintro e w' ⟨rfl,rfl⟩;rw[E];exact⟨_,rfl,.c (.p (.i .i64 (g d c))),X,rfl,l,Step.refl l,rfl,rfl,t⟩
def YE(w:World)(S:Nat->Prop):∀a:List ByteArray,bV w S (encS (a.map (·.data.toList))).flatten (a.map Value.string)
 | []=>True.intro
 | b::a=>⟨rfl,YE w S a⟩
def zEP(s sep:Ba):(Lib.splitB ⟨sep.toArray⟩ 0 (Lib.countB ⟨s.toArray⟩ ⟨sep.toArray⟩) ⟨s.toArray⟩).map (·.data.toList)=Lib.split s sep:=by
 rw[Lib.splitB_data];rfl
def TJ{P:Program}{f:FuncId}{g1:Nat}{t:TypeId}(z:∀(vals:Bb) (w:World),(callFunc f vals.toArray).run P w=.ok (.enter f vals.toArray) w)
  (A:∀w:World,w.ShapedOpen P->∃m,w.cell? ⟨g1,0,none⟩=some (.int .i64 m))
  (H:∀(s b:ByteArray) (m:Int) (w:World),s.size<4294967281->w.cell? ⟨g1,0,none⟩=some (.int .i64 m)->1<=b.size->Calls P f #[.string s,.string b] w λe w' =>
   e=.returned (.slice (some ⟨w.heap.size,0,none⟩) (Lib.countB s b+1) (Lib.countB s b+1))/\w'=w.alloc (.cells ((Lib.splitB b 0 (Lib.countB s b) s).map Value.string).toArray t))
  {a b:Ba}(I:a.length<4294967281)(g:1<=b.length):
  aA P f [.c (.p (.s a)),.c (.p (.s b))] [] λr h=>r=.c (.p (.sl 1 (encS (Lib.split a b))))/\h=[]:=by
 intro X vals W J K l;obtain⟨rfl⟩:vals=[.string ⟨a.toArray⟩,.string ⟨b.toArray⟩]:=by
  cases vals with
  | nil=>exact l.elim
  | cons v vs=>cases vs with
   | nil=>exact l.2.elim
   | cons u L=>cases L with
    | cons _ _=>exact l.2.2.elim
    | nil =>
     have M:v=.string ⟨a.toArray⟩:=l.1;have N:u=.string ⟨b.toArray⟩:=l.2.1;rw[M,N]
 obtain ⟨F,⟨B,_⟩,Y⟩:=K;obtain⟨m,Z⟩:=A F B;have O:g1<F.heap.size:=by
  grind [World.cell?]
 have C:X.w.cell? ⟨g1,0,none⟩=some (.int .i64 m):=by grind [uK.cell]
 refine .inl ⟨z _ _,(H _ _ m X.w (by simpa[ByteArray.size] using I) C (by simpa[ByteArray.size] using g)).mono ?_⟩;rintro e w' ⟨rfl,rfl⟩;refine⟨_,rfl,?_⟩;have d:(Lib.splitB ⟨b.toArray⟩ 0 (Lib.countB ⟨a.toArray⟩ ⟨b.toArray⟩) ⟨a.toArray⟩).length=Lib.countB ⟨a.toArray⟩ ⟨b.toArray⟩+1:=Lib.splitB_all _ (by simpa[ByteArray.size] using g) 0 _ _ rfl;have Q:=Lib.countB_le ⟨b.toArray⟩ (by simpa[ByteArray.size] using g) _ ⟨a.toArray⟩ (bg _);have D:=zEP a b;generalize Lib.splitB ⟨b.toArray⟩ 0 (Lib.countB ⟨a.toArray⟩ ⟨b.toArray⟩) ⟨a.toArray⟩=i at d D;have R:Lib.countB ⟨a.toArray⟩ ⟨b.toArray⟩+1<=4294967281:=by grind [ByteArray.size]
 generalize Lib.countB ⟨a.toArray⟩ ⟨b.toArray⟩+1=n at d R;have o:=Grew.alloc X.w (.cells (i.map Value.string).toArray t);have E:(encS (i.map (·.data.toList))).length=n:=by grind [encS_len,List.length_map]
 obtain ⟨T,U⟩:=vZ (k:=1) (es:=encS (i.map (·.data.toList))) (vs:=i.map Value.string) J o (λx G=>by
  simp only[encS,cg] at G;obtain⟨y,_,rfl⟩:=G;rfl) (YE X.w X.S i) (λj v V=>by simpa using V) (by rw[E,jz,di,d];omega) (wM.zero _ _ _)
 have q:=wC (k:=1) (n:=n) (cap:=n) (es:=encS (i.map (·.data.toList))) o qd (bg _) ra (by rw[jz,di,d];omega)
 refine zHi (X:=X.push _ _) U T q (.inr (.inl ⟨.c (.p (.sl 1 (encS (Lib.split a b)))),?_,?_,rfl,?_⟩))
 .grind [zJo,zAC,zAp,Ctx.push,XW]
 .simp_all
 .simp_all
def EU:∀(s w:Ba),(Lib.index s [47] = -1->BZ w s=[w++s])/\(∀i:Nat,Lib.index s [47]=i->BZ w s=(w++s.take i)::BZ [] (s.drop (i+1)))
 | [],w=>⟨λ_=>by simp[BZ],λi h=>by simp[Lib.index] at h⟩
 | b::l,w=>by
  rw[Lib.index];by_cases a:b=47
  .subst a;have c:([47]:Ba).isPrefixOf (47::l)=true:=by simp[List.isPrefixOf]
   rw[aw c];refine⟨λh=>by omega,λi h=>?_⟩
   have:i=0:=qd
   subst this;simp[BZ]
  .have c:¬ ([47]:Ba).isPrefixOf (b::l)=true:=by simp[List.isPrefixOf,Ne.symm a]
   have d:¬ ((b.toNat:Int)==47)=true:=by
    intro h;have h:=eq_of_beq h;exact a (kl.1 (by have:(47:UInt8).toNat=47:=rfl;omega))
   obtain⟨e,f⟩:=EU l (w++[b]);have g:=Lib.index_ge l [47];rw[au c,BZ,au d];split
   .rename_i h;have h:=eq_of_beq h;refine⟨λ_=>by rw[e h];simp,λi h=>by omega⟩
   .rename_i h;have h:Lib.index l [47]≠-1:=by simpa using h
    refine⟨λh=>by omega,λi k=>?_⟩
    obtain⟨j,rfl⟩:∃j,i=j+1:=⟨i-1,qd⟩
    rw[f j qd];simp
def MS:∀(k:Nat) (s:Ba),Lib.count s [47]=k->Lib.splitK [47] 0 k s=rL s
 | 0,s,h=>by
  rw[Lib.splitK];by_cases a:Lib.index s [47] = -1
  .rw[rL,(EU s []).1 a];rfl
  .have b:=Lib.index_ge s [47];obtain⟨i,c⟩:∃i:Nat,Lib.index s [47]=i:=⟨(Lib.index s [47]).toNat,qd⟩
   grind [Lib.count_hit]
 | k+1,s,h=>by
  by_cases a:Lib.index s [47] = -1
  .rw[Lib.count_miss a] at h;omega
  .have b:=Lib.index_ge s [47];obtain⟨i,c⟩:∃i:Nat,Lib.index s [47]=i:=⟨(Lib.index s [47]).toNat,qd⟩
   have e:=Lib.count_hit (sub:=[47]) ql c;have d:¬ (Lib.index s [47] == -1)=true:=by simpa using a
   have hit:(Lib.index s [47]).toNat=i:=qd
   rw[Lib.splitK,au d,hit,rL,(EU s []).2 i c];have:=MS k (s.drop (i+1)) (by simp only[mq] at e;omega);simp only[mq,je,e9];rw[this];rfl
def zJE(s:Ba):Lib.split s [47]=rL s:=MS _ s rfl
def indexByte_none(c:UInt8):∀s:Ba,decide (Lib.indexByte s c<0)=s.all λb=>!(b==c)
 | []=>rfl
 | b::s=>by
  have a:=indexByte_none c s;grind [Lib.indexByte]
def LA:∀s:Ba,s.all sH=((s.all λb=>!(b==0)) && s.all λb=>!(b==47))
 | []=>rfl
 | b::s=>by
  have a:((b.toNat:Int)==0)=(b==0):=by
   rw[gi];simp only[dq];exact⟨λh=>kl.1 (by have:(0:UInt8).toNat=0:=rfl;omega),λh=>by rw[h];rfl⟩
  have c:((b.toNat:Int)==47)=(b==47):=by
   rw[gi];simp only[dq];exact⟨λh=>kl.1 (by have:(47:UInt8).toNat=47:=rfl;omega),λh=>by rw[h];rfl⟩
  rw[dz,dz,dz,LA s,sH,a,c];cases b==0<;>cases b==47<;>cases (s.all λb=>!(b==0))<;>rfl
end Go.Dm
end
section
namespace Go.Dm
open Go Go.ChangeShapes Go.RowKit Go.WideShapes
def WK{H:Type}{enc:TypeId × Value->H}{C:Checked}{os:Os}{f:FuncId}{h:Func}{s:ChangeSpec}{d:List PathCond}{c:Bool}(a:List (String × DataW Unit))(args:Array Value)(e:Nat)
  (h1:(World.holding C.prog os ⟨#[],#[],[]⟩).layFits C.prog a []=true)
  (l:(World.holding C.prog os ⟨#[],#[],[]⟩).layIfaces C.prog a (World.laidAll C.prog os a)=true)
  (m:(a.all λx=>x.2.handleName?.isNone)=true)
  (n:((World.laidAll C.prog os a).forCall (λ_ _=>0) ⟨#[],args,[]⟩).variablesZipB C.prog=true)
  (o:(((World.laidAll C.prog os a).forCall (λ_ _=>0) ⟨#[],args,[]⟩).heap.toList.drop C.prog.globals.size).take ((begin C.prog (λ_ _=>0) default).world.heap.size-C.prog.globals.size) =
   (begin C.prog (λ_ _=>0) default).world.heap.toList.drop C.prog.globals.size)
  (j:Input.okWideB C.prog ((World.laidAll C.prog os a).forCall (λ_ _=>0) ⟨#[],args,[]⟩) f ⟨#[],args,[]⟩=true)
  (g:s.preB enc C.prog h d c ((World.laidAll C.prog os a).forCall (λ_ _=>0) ⟨#[],args,[]⟩).memory args e=true)
  (k:s.sizedB enc C.prog h c ((World.laidAll C.prog os a).forCall (λ_ _=>0) ⟨#[],args,[]⟩).memory args e=true):
  ∃ (w:World) (b:Tape) (i:Input),w.os=os/\(w.forCall b i).Shaped C.prog/\i.vars=[]/\Input.okWide C.prog (w.forCall b i) .any w.heap.size f i /\
   ((s.pre enc C.prog h d c (w.forCall b i).memory i.args/\laidMetH C.prog a (w.forCall b i).memory)/\sizedMet enc C.prog h (OpenSpec.ofChange s) c (w.forCall b i).memory i.args)/\({}:Assume).holds C.prog (lone (Frame.enter C.prog f i.args .normal) [] (w.forCall b i)) :=
 ChangeSpec.witness_shaped (X:=λw _=>laidMetH C.prog a w) false (World.laidAll C.prog os a) args e (World.laidAll_os _ _ _) (World.shaped_of_ZipB n o) j g k
  (by rw[Go.MakeChecks.laidMetH_plain _ _ _ m];exact laidMet_laidAll args h1 l)
def VZ{H:Type}{enc:TypeId × Value->H}{a:Assume}{C:Checked}{os:Os}{f:FuncId}{fn:Func}{s:ChangeSpec}{k:List PathCond}{b l g m:Bool}{X:World->Array Value->Prop}
  (own:ownKnob C.prog.godebug=none)(n:os.Started)(p:C.prog.inits.idxOf? f=none)(z:C.prog.funcs[f]?=some fn)
  (o:∃(w:World) (c:Tape) (i:Input),w.os=os/\(w.forCall c i).Shaped C.prog/\i.vars=[]/\Input.okWide C.prog (w.forCall c i) .any w.heap.size f i /\
   ((s.pre enc C.prog fn k b (w.forCall c i).memory i.args/\X (w.forCall c i).memory i.args)/\sizedMet enc C.prog fn (OpenSpec.ofChange s) b (w.forCall c i).memory i.args)/\a.holds C.prog (lone (Frame.enter C.prog f i.args .normal) [] (w.forCall c i)))
  (h:∀(W:World) (q:Nat) (args:Array Value) (ds y:List (DataW H)) (d:List MemPlace),
   (∀(j:Nat) t v,fn.params[j]?=some t->args[j]?=some v->Value.okWide C.prog W .any q t v) ->
   DataW.Whole enc C.prog fn.params.toList s.vars b W args.toList ds y d ->
   W.ShapedOpen C.prog ->
   (DataW.weightsEach C.prog (fn.params.toList++s.plain.varTypes C.prog) (ds++y)).all (·<=reachBytes)=true ->
   X W.memory args ->
   Calls C.prog f args W λe F=>∃v,e=.returned v/\s.post enc C.prog fn b l g m W args v F):
  ReturnsInHanded a C os f .any (λw args=>(s.pre enc C.prog fn k b w args/\X w args)/\sizedMet enc C.prog fn (OpenSpec.ofChange s) b w args) (s.post enc C.prog fn b l g m):=by
 refine returnsInHanded_of_calls own n p o ?_;intro w c i _ A _ B r _;obtain⟨_,_,_,D,u,_,_,_,_,x⟩:=B;have e:D=fn:=fx (u.symm.trans z);subst e;obtain⟨⟨⟨ds,y,d,G,_⟩,I⟩,J⟩:=r;have E:=DataW.Whole.of_heap (w':=w.forCall c i) rp G;refine(h (w.forCall c i) w.heap.size i.args ds y d x E A (J.weights G) I).mono λe F ⟨v,K,L⟩=>?_;grind [ChangeSpec.post_blind]
end Go.Dm
end
end
