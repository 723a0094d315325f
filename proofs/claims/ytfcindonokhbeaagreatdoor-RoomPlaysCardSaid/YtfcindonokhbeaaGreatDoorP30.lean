/- Part 31 of roomPlays_card. No condition. -/
import Derived.Test.YtfcindonokhbeaaGreatDoorP25
import Derived.Test.YtfcindonokhbeaaGreatDoorRows
import Derived.Test.YtfcindonokhbeaaGreatDoorP18
set_option linter.all false
set_option maxRecDepth 100000
set_option maxHeartbeats 0
section
namespace Go.Proofs.YtfcindonokhbeaaGreatDoor
open Go Go.ChangeShapes Go.Dm Go.RowKit Go.WideShapes
section
def own:ownKnob Tryz.prog.godebug=none:=qg
def zPP:laidOutB Tryz.prog=true:=qg
section
variable {H:Type}{enc:TypeId × Value->H}{W:World}{base:Nat}{v:Value}{d:DataW H}{p:List MemPlace}
end
section
variable {H:Type}{enc:TypeId × Value->H}{W:World}{base:Nat}{v:Value}{d:DataW H}{p:List MemPlace}
end
section
variable {H:Type}{enc:TypeId × Value->H}{W:World}{base:Nat}{v:Value}{d:DataW H}{p:List MemPlace}
end
section
variable {H:Type}{enc:TypeId × Value->H}{W:World}{base:Nat}{v:Value}{d:DataW H}{p:List MemPlace}
theorem pF{g:Nat}{a:List PV}(h:uR tab (g+1) 3 a):∃n,a=[.i .i64 n]:=by
 simp only[uR,tab3] at h;obtain⟨n,h,_⟩:=h;exact⟨n,h⟩
theorem zM1{g:Nat}{a:List PV}(h:uR tab (g+1) 31 a):∃n,a=[.f n]/\n<18446744073709551616:=by
 simp only[uR,tab31] at h;obtain⟨n,h,b⟩:=h;exact⟨n,h,b⟩
theorem zCE{g:Nat}{a:List PV}(h:uR tab (g+1+1) 32 a):∃l,a=[.sl 1 (bS l)]/\l.length<=9223372036854775807:=by
 simp only[uR,tab32,tab5] at h;obtain⟨c,h,b,e⟩:=h;obtain⟨l,rfl,f⟩:=zBR b;exact⟨l,h,qd⟩
section
variable {H:Type}{enc:TypeId × Value->H}{W:World}{base:Nat}{v:Value}{d:DataW H}{p:List MemPlace}
end
section
variable {H:Type}{enc:TypeId × Value->H}{W:World}{base:Nat}{v:Value}{d:DataW H}{p:List MemPlace}
end
end
def zH5{α:Type}{f:α->List PV}{B:α->Prop}:∀{es:Bc},(∀x∈es,∃r,x=f r/\B r)->∃l:List α,es=l.map f/\∀r∈l,B r
 | [],_=>⟨[],rfl,λr h=>by simp at h⟩
 | e::es,h=>by
  obtain⟨r,rfl,b⟩:=h e cz;obtain⟨l,rfl,c⟩:=zH5 λx g=>h x (cu _ g);exact⟨r::l,rfl,λq a=>by rcases bx.1 a with rfl|a;exact b;exact c q a⟩
section
variable {H:Type}{enc:TypeId × Value->H}{W:World}{base:Nat}{v:Value}{d:DataW H}{p:List MemPlace}
end
end
end Go.Proofs.YtfcindonokhbeaaGreatDoor
end
section
namespace Go.Proofs.YtfcindonokhbeaaGreatDoor
open Go Go.Dm Go.Proofs Go.Proofs.Tryz
def zQs{a:Bl}(l:a.length<=1000000):ag 40 [.c (.p (.sl 5 (aP a))),.c (.p (.sl 5 (aP a)))] (.c (.p (.b true))):=by
 refine aa func40 λm hX=>?_
 repeat' (first|exact⟨⟩|refine sp ?_)
 refine aJ aC aI (α:=Nat) (λk=>⟨42,[(0,.c (.p (.sl 5 (aP a)))),(1,.c (.p (.sl 5 (aP a)))),(5,.c (.p (.i .i64 k)))],[]⟩)
  (λk=>k<=a.length) (λk=>a.length-k) 0 (bc _) (.inl (aB qj rfl rfl wkS)) ?_
 intro k o;by_cases d:k<a.length
 .have e:=ay d;have f:=bX e;obtain⟨g,h,j,q⟩:=lk k a.length;generalize a[k]=x at e f;have r:=dK x.n;clear e
  repeat' (first|exact⟨⟩|refine sq ?_|refine uF eV ?_|refine dG (id:=6) aC aI [] [0,1,2,3,4,5,6,7,8,9,10,11,12,13,14,15,16,17,18,19,20,21,22,23,24] ?_|refine aM ?_|refine d1 ?_ ?_ ?_|with_reducible exact rfl)
  exact cW (k+1) qd qd (aB rfl rfl rfl wkS)
 .have g:=aj k a.length
  repeat' (first|exact⟨⟩|refine sp ?_)
end Go.Proofs.YtfcindonokhbeaaGreatDoor
end
section
namespace Go.Proofs.YtfcindonokhbeaaGreatDoor
open Go Go.ChangeShapes Go.Dm Go.RowKit Go.WideShapes
section
def zSz{g:Nat}{a:List PV}(h:uR tab (g+1) 9 a):∃l,a=[.s l]/\l.length<=9223372036854775807:=by
 simp only[uR,tab9] at h;obtain⟨n,h,b⟩:=h;exact⟨n,h,b⟩
def OkRC(r:RC):Prop:=r.d.length<=9223372036854775807/\r.s.length<=9223372036854775807/\r.x<18446744073709551616
def zTQ{g:Nat}{l:List PV}(h:uR tab (g+1+1+1) 39 l):∃r:RC,l=r.cs/\OkRC r:=by
 obtain⟨parts,rfl,a⟩:=GD (by rw[tab39]) h;obtain⟨K,_,rfl,m,a⟩:=eM a;obtain⟨L,_,rfl,n,a⟩:=eM a;obtain⟨M,_,rfl,o,a⟩:=eM a;obtain⟨N,_,rfl,q,a⟩:=eM a;obtain⟨O,_,rfl,s,a⟩:=eM a;obtain⟨P,_,rfl,t,a⟩:=eM a;obtain⟨Q,_,rfl,u,a⟩:=eM a;obtain⟨R,_,rfl,w,a⟩:=eM a;obtain⟨S,_,rfl,x,a⟩:=eM a;obtain⟨y,_,rfl,e,a⟩:=eM a;obtain⟨z,_,rfl,f,a⟩:=eM a;obtain rfl:=zI0 a;obtain⟨A,rfl⟩:=pF m;obtain⟨B,rfl⟩:=pF n;obtain⟨C,rfl⟩:=pF o;obtain⟨D,rfl⟩:=pF q;obtain⟨E,rfl⟩:=pF s;obtain⟨F,rfl⟩:=pF t;obtain⟨G,rfl⟩:=pF u;obtain⟨I,rfl⟩:=pF w;obtain⟨J,rfl,i⟩:=zM1 x;obtain⟨j,rfl,b⟩:=zCE e;obtain⟨k,rfl,c⟩:=zSz f;exact⟨⟨A,B,C,D,E,F,G,I,J,j,k⟩,rfl,b,c,i⟩
section
variable {H:Type}{enc:TypeId × Value->H}{W:World}{base:Nat}{v:Value}{d:DataW H}{p:List MemPlace}
end
end
section
def zTR{g:Nat}{b:List PV}(h:uR tab (g+1+1+1+1) 41 b):∃r:RW,b=r.cs/\zRc r:=by
 obtain⟨parts,rfl,a⟩:=GD (by rw[tab41]) h;obtain⟨x,_,rfl,c,a⟩:=eM a;obtain⟨y,_,rfl,e,a⟩:=eM a;obtain⟨z,_,rfl,f,a⟩:=eM a;obtain⟨A,_,rfl,i,a⟩:=eM a;obtain⟨B,_,rfl,j,a⟩:=eM a;obtain⟨C,_,rfl,k,a⟩:=eM a;obtain⟨D,_,rfl,l,a⟩:=eM a;obtain rfl:=zI0 a;obtain⟨n,rfl⟩:=pF c;obtain⟨o,rfl⟩:=pF e;obtain⟨q,rfl⟩:=pF f;obtain⟨s,rfl⟩:=pF i;obtain⟨t,rfl⟩:=pF j;obtain⟨r,rfl,u⟩:=zTQ k;obtain⟨m,rfl,w⟩:=zCE l;exact⟨⟨n,o,q,s,t,r,m⟩,rfl,u,w⟩
def zQg{g:Nat}{a:List PV}(h:uR tab (g+1+1+1+1+1) 22 a):∃l:List RW,a=[.sl 17 (VI l)]/\l.length<=9223372036854775807/\∀r∈l,zRc r:=by
 unfold uR at h;rw[tab22] at h;simp only[tab41] at h;obtain⟨j,h,b,c⟩:=h;obtain⟨l,rfl,e⟩:=zH5 (f:=RW.cs) (B:=zRc) λx i=>zTR (b x i);exact⟨l,h,by simp at c;omega,e⟩
section
variable {H:Type}{enc:TypeId × Value->H}{W:World}{base:Nat}{v:Value}{d:DataW H}{p:List MemPlace}
theorem zKw(a:Value.okWide Tryz.prog W .any base 22 v)(h:DataW.Trod enc Tryz.prog W 0 (λ_=>true) true 22 v d p):
  ∃l:List RW,(l.length<=9223372036854775807/\∀r∈l,zRc r)/\bH (iB W) (.c (.p (.sl 17 (VI l)))) v:=by
 obtain⟨g,b,e⟩:=zKv aC 5 qg a h;obtain⟨l,rfl,f⟩:=zQg b;exact⟨l,f,e⟩
end
end
def zNg {W:World} {l:List (String × DataW Unit)} (h:laidMetH Tryz.prog l W.memory) (b:(l.all λx=>x.2.handleName?.isNone)=true) (d:("pentimento/pentimentohand.kinds",(Rows.laid_pentimento_pentimentohand_kinds:DataW Unit))∈l) (c:("pentimento/pentimentoplay.names",(Rows.laid_pentimento_pentimentoplay_names:DataW Unit))∈l):zOF W:=by
 rw[Go.MakeChecks.laidMetH_plain _ _ _ b] at h;intro g j v a
 match g,a with
 | 1,a =>
  simp only[zCO,dv,du] at a;obtain⟨n,b,rfl⟩:=a;exact zHV h d (vs:=zJq) rfl qg qg Tryz.underlying116 Tryz.underlying3 qg j n b
 | 0,a =>
  simp only[zCO,dv,du] at a;obtain⟨n,b,rfl⟩:=a;exact zHW h c (vs:=zCP) rfl qg qg Tryz.underlying115 Tryz.underlying9 qg j n b
 | g+2,a=>simp[zCO] at a
end Go.Proofs.YtfcindonokhbeaaGreatDoor
end
