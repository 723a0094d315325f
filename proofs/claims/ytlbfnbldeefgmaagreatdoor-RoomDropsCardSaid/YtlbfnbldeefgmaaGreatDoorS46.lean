/- Part 47 of the proof of roomDrops_card, set without needless blanks. No condition. -/
import Derived.Test.YtlbfnbldeefgmaaGreatDoorS30
set_option linter.all false
set_option maxRecDepth 100000
set_option maxHeartbeats 16000000
section
namespace Go.Dm
open Go
section
variable {l:List Ly}{b:Bool}{i:Nat}{x:Ly}{id:Int}{B:List Bool}{W:List Int}
def QT(l:List Bool):List (List PV):=l.map λb=>[.b b]
theorem zHc(l:List Bool):(QT l).length=l.length:=by simp[QT]
theorem zHd(l:List Bool):(∀x∈QT l,x.length=1)=True:=eq_true λx hx=>by
 obtain⟨y,_,rfl⟩:=List.mem_map.1 hx;rfl
theorem uZ{l:List Bool}{k:Nat}(h:l[k]?=some b):(QT l).getD k []=[.b b]:=by
 simp only[QT,List.getD_eq_getElem?_getD,List.getElem?_map,h];rfl
theorem zHf(l:List Bool)(k:Nat)(b:Bool):(QT l).set k [.b b]=QT (l.set k b):=by simp[QT,List.map_set]
theorem zHe(n:Nat):List.replicate n [PV.b false]=QT (List.replicate n false):=by simp[QT]
attribute [go_sem] zHc zHd zHf
theorem uM: ∀(r:List Ly) {W V:List Int},(∀a,W.contains a=V.contains a)->xD r W=xD r V
 | [],_,_,_=>rfl
 | x::r,W,V,h=>by
  simp only[xD];rw[h x.i,uM r (W:=x.p::x.s::W) (V:=x.p::x.s::V) λa=>by simp only[List.contains_cons,h a],uM r h]
def NJ: List Ly->List Bool->List Int
 | x::l,b::B=>(if b then [x.i] else [])++NJ l B
 | _,_=>[]
theorem NK: ∀{l:List Ly} {B:List Bool} {k:Nat} {x:Ly} {b:Bool},l[k]?=some x->B[k]?=some b->NJ (l.take (k+1)) (B.take (k+1))=NJ (l.take k) (B.take k)++(if b then [x.i] else [])
 | [],_,_,_,_,h,_=>by simp at h
 | _::_,[],_,_,_,_,h=>by simp at h
 | y::l,c::B,0,x,b,h1,h2=>by
  simp only[List.getElem?_cons_zero,Option.some.injEq] at h1 h2;subst h1 h2;simp[NJ]
 | y::l,c::B,k+1,x,b,h1,h2=>by
  simp only[List.getElem?_cons_succ] at h1 h2;have ih:=NK (l:=l) (B:=B) h1 h2;simp only[List.take_succ_cons,NJ,ih,List.append_assoc]
theorem AO: ∀{l:List Ly} {B:List Bool} {k:Nat} {x:Ly} {b:Bool},l[k]?=some x->B[k]?=some b->NJ (l.drop k) (B.drop k)=(if b then [x.i] else [])++NJ (l.drop (k+1)) (B.drop (k+1))
 | [],_,_,_,_,h,_=>by simp at h
 | _::_,[],_,_,_,_,h=>by simp at h
 | y::l,c::B,0,x,b,h1,h2=>by
  simp only[List.getElem?_cons_zero,Option.some.injEq] at h1 h2;subst h1 h2;rfl
 | y::l,c::B,k+1,x,b,h1,h2=>by
  simp only[List.getElem?_cons_succ] at h1 h2;simp only[List.drop_succ_cons];exact AO h1 h2
theorem XT: ∀(l:List Ly) (B:List Bool),(NJ l B).length<=l.length
 | [],_=>by simp[NJ]
 | _::_,[]=>by simp[NJ]
 | x::l,b::B=>by
  have:=XT l B;simp only[NJ,List.length_append,List.length_cons];cases b<;>simp<;>omega
structure AncAt (l:List Ly) (id:Int) (m:Nat) (B:List Bool) (W:List Int):Prop where
 len:B.length=l.length
 le:m<=l.length
 lo:∀(k:Nat) (x:Ly),k<m->l[k]?=some x->B[k]?=some (W.contains x.i)
 out:xD (l.take m).reverse (id::W)++NJ (l.drop m) (B.drop m)=lW l id
theorem YT(l:List Ly)(id:Int):AncAt l id l.length (List.replicate l.length false) [] where
 len:=List.length_replicate
 le:=Nat.le_refl _
 lo:=λk x hk hx=>by
  rw[List.getElem?_replicate,if_pos hk];rfl
 out:=by
  rw[List.take_length,List.drop_length,List.drop_eq_nil_of_le (by simp)];show _++[]=_;rw[List.append_nil];rfl
theorem YL(h:l[i]?=some x):(l.take (i+1)).reverse=x::(l.take i).reverse:=by
 rw[List.take_add_one,h];simp
theorem AncAt.no(h:AncAt l id (i+1) B W)(hx:l[i]?=some x)(hb:B[i]?=some false)(hi:(x.i==id)=false):AncAt l id i B W where
 len:=h.len
 le:=Nat.le_of_succ_le h.le
 lo:=λk y hk hy=>h.lo k y (by omega) hy
 out:=by
  have h1:=h.lo i x (by omega) hx;rw[hb] at h1;have h2:=h.out;rw[YL hx] at h2;simp only[xD] at h2;rw[if_neg (by simp only[List.contains_cons,hi,Bool.false_or];rw[<- Option.some.inj h1];decide)] at h2;rw[AO hx hb];simpa using h2
theorem AncAt.yes{B2:List Bool}(h:AncAt l id (i+1) B W)(hx:l[i]?=some x)(hb:B[i]?=some b)(hi:(b || x.i==id)=true)
 (hl:B2.length=B.length)(h1:∀(k:Nat) (y:Ly),k<i->l[k]?=some y->B2[k]?=some (W.contains y.i || (y.i==x.p || y.i==x.s)))(h2:B2[i]?=some true)(h3:∀k,i<k->B2[k]?=B[k]?):AncAt l id i B2 (x.p::x.s::W) where
 len:=hl.trans h.len
 le:=Nat.le_of_succ_le h.le
 lo:=λk y hk hy=>by
  rw[h1 k y hk hy];simp only[List.contains_cons];cases W.contains y.i<;>cases (y.i==x.p)<;>cases (y.i==x.s)<;>rfl
 out:=by
  have k1:=h.lo i x (by omega) hx;rw[hb] at k1;have k2:=h.out;rw[YL hx] at k2;simp only[xD] at k2;rw[if_pos (by
   simp only[List.contains_cons];rw[<- Option.some.inj k1,Bool.or_comm];exact hi)] at k2
  have k3:B2.drop (i+1)=B.drop (i+1):=by
   apply List.ext_getElem?;intro j;rw[List.getElem?_drop,List.getElem?_drop];exact h3 _ (by omega)
  rw [AO hx h2,k3,<- k2,uM (l.take i).reverse (W:=id::x.p::x.s::W) (V:=x.p::x.s::id::W) λa=>by
   simp only[List.contains_cons];cases (a==id)<;>cases (a==x.p)<;>cases (a==x.s)<;>rfl]
  simp
theorem AncAt.end_(h:AncAt l id 0 B W):NJ l B=lW l id:=by
 have:=h.out;simpa[xD] using this
end
end Go.Dm
end
section
namespace Go.Proofs.YtlbfnbldeefgmaaGreatDoor
open Go Go.Dm Go.Proofs Go.Proofs.Tryz
theorem zMn{l:List Ly}{a:Int}(hl:l.length<=100000):aA prog 96 [.c (.p (.sl 4 (cN l))),.c (.p (.i .i64 a))] [] λr h=>r=.c (.p (.sl 1 (cG (lW l a))))/\h=[]:=by
 refine aH ?_;refine eT func96 λX0 hX=>?_;simp only[f96,go_sem];have w0:IntKind.i64.wrap ((l.length:Int)-1)=(l.length:Int)-1:=wrap_i64 (by omega) (by omega);have hl0:(0:Int)<=(l.length:Int):=by omega
 have hl1:(l.length:Int)<=140737488355328:=by omega
 have hrep:=zHe l.length
 repeat' (first|exact⟨⟩|refine sp ?_|refine ai ?_)
 refine bO aF aL (α:=Nat × List Bool) (λx=>⟨86,[(0,.c (.p (.sl 4 (cN l)))),(1,.c (.p (.i .i64 a))),(5,.c (.own 0 0 l.length)),(6,.c (.p (.i .i64 ((x.1:Int)-1))))],[.arr 1 (QT x.2) false]⟩)
  (λx=>∃W,AncAt l a x.1 x.2 W) (λx=>x.1) (l.length,List.replicate l.length false) ⟨[],YT l a⟩ (aS (aD (by rw[hX];rfl) rfl rfl wkK)) ?_
 rintro⟨m,B⟩ ⟨W,hA⟩;simp only at hA ⊢;cases m with
 | succ i =>
  have hle:=hA.le;have hBl:=hA.len;have hlt:i<l.length:=by omega
  have e1:(((i+1:Nat):Int)-1)=(i:Int):=by omega
  rw[e1];have hx:l[i]?=some l[i]:=List.getElem?_eq_getElem hlt;have hg:=gL hx;generalize l[i]=x at hx hg;have hb:=hA.lo i x (by omega) hx;have hq:=uZ hb;generalize W.contains x.i=b at hb hq;have h1:decide ((0:Int)<=(i:Int))=true:=decide_eq_true (by omega);have h2:(i:Int)<(l.length:Int):=by omega
  have h3:(0:Int)<=i:=by omega
  have w1:IntKind.i64.wrap ((i:Int)-1)=(i:Int)-1:=wrap_i64 (by omega) (by omega);have hset:∀c:Bool,(B.set i c)[i]?=some c:=λc=>by rw[List.getElem?_set_self (by omega)]
  have hqs:∀c:Bool,(QT (B.set i c)).getD i []=[.b c]:=λc=>uZ (hset c)
  cases hi:(x.i==a)<;>cases hbb:b
  all_goals subst hbb
  .have hN:=PLift.up (hA.no hx hb hi);clear hA hx hqs hset
   repeat' (first|exact⟨⟩|refine sq ?_)
   exact fL (i,B) ⟨W,hN.down⟩ (by simp only;omega) (aS (aD rfl rfl rfl wkK))
  all_goals
   obtain⟨B1,hB1⟩:∃B1,B1=B.set i true:=⟨_,rfl⟩
   have hqB:=hqs true;have hst:=hset true;rw[<- hB1] at hqB hst;have hB1l:B1.length=l.length:=by rw[hB1,List.length_set];exact hBl
   have hB1o:∀k,k≠i->B1[k]?=B[k]? := λk hk=>by rw[hB1,List.getElem?_set_ne (λe=>hk e.symm)]
   have hY:∀B2:List Bool,B2.length=l.length->(∀(k:Nat) (y:Ly),k<i->l[k]?=some y->B2[k]?=some (W.contains y.i || (y.i==x.p || y.i==x.s)))->(∀k,i<=k->B2[k]?=B1[k]?)->AncAt l a i B2 (x.p::x.s::W):=λB2 g1 g2 g3 =>
    hA.yes hx hb (by simp[hi]) (by rw[g1,hBl]) g2 ((g3 i (Nat.le_refl _)).trans hst) λk hk=>(g3 k (by omega)).trans (hB1o k (by omega))
   have hlo:∀(k:Nat) (y:Ly),k<i->l[k]?=some y->B1[k]?=some (W.contains y.i):=λk y hk hy=>by rw[hB1o k (by omega)];exact hA.lo k y (by omega) hy
   have hY:=PLift.up hY;have hlo:=PLift.up hlo;have hBs:=hB1.symm;have hBB:B[i]?=some true->B1=B:=λh=>by
    rw[hB1];obtain⟨h1,h2⟩:=List.getElem?_eq_some_iff.1 h;rw[<- h2,List.set_getElem_self]
   have hBB:=PLift.up hBB;clear hA hx hqs hset hB1 hB1o hst
  .have e:=hBB.down hb;subst e;clear hBB hBs hb hqB
   repeat' (first|exact⟨⟩|refine sq ?_)
   refine bO aF aL (α:=Nat × List Bool) (λz=>⟨86,[(0,.c (.p (.sl 4 (cN l)))),(1,.c (.p (.i .i64 a))),(5,.c (.own 0 0 l.length)),(6,.c (.p (.i .i64 i))),(7,.c (.p (.i .i64 z.1)))],[.arr 1 (QT z.2) false]⟩)
    (λz=>z.1<=i/\z.2.length=l.length/\(∀(j:Nat) (y:Ly),j<z.1->l[j]?=some y->z.2[j]?=some (W.contains y.i || (y.i==x.p || y.i==x.s)))/\∀j,z.1<=j->z.2[j]?=B1[j]?) (λz=>i-z.1) (0,B1) ⟨Nat.zero_le _,hB1l,λj y h=>by omega,λ_ _=>rfl⟩ (aS (aD (by rw[hX];rfl) rfl rfl wkK)) ?_
   rintro⟨k,B2⟩ ⟨j1,j2,j3,j4⟩;simp only at j1 j2 j3 j4;by_cases hki:k<i
   .have hz:l[k]?=some l[k]:=List.getElem?_eq_getElem (by omega);have hgz:=gL hz;generalize l[k]=z at hz hgz;have hbz:=(j4 k (Nat.le_refl _)).trans (hlo.down k z hki hz);have hqz:=uZ hbz;have u1:decide ((k:Int)<(i:Int))=true:=decide_eq_true (by omega);have u2:(k:Int)<(l.length:Int):=by omega
    have u3:(0:Int)<=k:=by omega
    have u4:IntKind.i64.wrap ((k:Int)+1)=k+1:=wrap_i64 (by omega) (by omega);have stay:(z.i==x.p || z.i==x.s)=false->(k+1<=i/\B2.length=l.length/\(∀(j:Nat) (y:Ly),j<k+1->l[j]?=some y->B2[j]?=some (W.contains y.i || (y.i==x.p || y.i==x.s)))/\∀j,k+1<=j->B2[j]?=B1[j]?):=λhc=>⟨by omega,j2,λj y hj hy=>by
     rcases Nat.lt_or_ge j k with h|h
     .exact j3 j y h hy
     .have:j=k:=by omega
      subst this;rw[hz] at hy;cases hy;rw[hbz,hc,Bool.or_false],λj hj=>j4 j (by omega)⟩
    have turn:(z.i==x.p || z.i==x.s)=true->(k+1<=i/\(B2.set k true).length=l.length/\(∀(j:Nat) (y:Ly),j<k+1->l[j]?=some y->(B2.set k true)[j]?=some (W.contains y.i || (y.i==x.p || y.i==x.s)))/\∀j,k+1<=j->(B2.set k true)[j]?=B1[j]?):=λhc=>⟨by omega,by rw[List.length_set];exact j2,λj y hj hy=>by
     rcases Nat.lt_or_ge j k with h|h
     .rw[List.getElem?_set_ne (by omega)];exact j3 j y h hy
     .have:j=k:=by omega
      subst this;rw[hz] at hy;cases hy;rw[List.getElem?_set_self (by omega),hc,Bool.or_true],λj hj=>by rw[List.getElem?_set_ne (by omega)];exact j4 j (by omega)⟩
    have stay:=PLift.up stay;have turn:=PLift.up turn;clear j3 j4 hz hbz hlo hY;cases hp:(z.i==x.p)<;>cases hs:(z.i==x.s)
    .repeat' (first|exact⟨⟩|refine sp ?_|((refine aG (id:=11) aF aL [] [0,1,2,3,4,5,6,7,8,9,10,11,12,13,14,15,16,17,18,19,20,21,22,23] (by decide +kernel) ?_);(repeat' (first|(refine aP ?_)|((refine bI ?_ rfl rfl ?_ ?_);(rotate_left 1);(focus ((repeat' (first|exact⟨⟩|refine sp ?_));exact rfl));(simp only[aB]))))))
     exact fL (k+1,B2) (stay.down (by rw[hp,hs];rfl)) (by simp only;omega) (aS (aD rfl rfl rfl wkK))
    all_goals
     repeat' (first|exact⟨⟩|refine sp ?_|((refine aG (id:=11) aF aL [] [0,1,2,3,4,5,6,7,8,9,10,11,12,13,14,15,16,17,18,19,20,21,22,23] (by decide +kernel) ?_);(repeat' (first|(refine aP ?_)|((refine bI ?_ rfl rfl ?_ ?_);(rotate_left 1);(focus ((repeat' (first|exact⟨⟩|refine sp ?_));exact rfl));(simp only[aB])))))|refine ai ?_)
     exact fL (k+1,B2.set k true) (turn.down (by rw[hp,hs];rfl)) (by simp only;omega) (aS (aD rfl rfl rfl wkK))
   .have hke:k=i:=by omega
    subst hke;have hN:=PLift.up (hY.down B2 j2 j3 j4);have u1:decide ((k:Int)<(k:Int))=false:=decide_eq_false (by omega);clear j3 j4 hlo hY
    repeat' (first|exact⟨⟩|refine sp ?_)
    exact fL (k,B2) ⟨_,hN.down⟩ (by simp only;omega) (aS (aD rfl rfl rfl wkK))
  .clear hBB hb
   repeat' (first|exact⟨⟩|refine sq ?_)
   refine bO aF aL (α:=Nat × List Bool) (λz=>⟨86,[(0,.c (.p (.sl 4 (cN l)))),(1,.c (.p (.i .i64 a))),(5,.c (.own 0 0 l.length)),(6,.c (.p (.i .i64 i))),(7,.c (.p (.i .i64 z.1)))],[.arr 1 (QT z.2) false]⟩)
    (λz=>z.1<=i/\z.2.length=l.length/\(∀(j:Nat) (y:Ly),j<z.1->l[j]?=some y->z.2[j]?=some (W.contains y.i || (y.i==x.p || y.i==x.s)))/\∀j,z.1<=j->z.2[j]?=B1[j]?) (λz=>i-z.1) (0,B1) ⟨Nat.zero_le _,hB1l,λj y h=>by omega,λ_ _=>rfl⟩ (aS (aD (by rw[hX];rfl) rfl rfl wkK)) ?_
   rintro⟨k,B2⟩ ⟨j1,j2,j3,j4⟩;simp only at j1 j2 j3 j4;by_cases hki:k<i
   .have hz:l[k]?=some l[k]:=List.getElem?_eq_getElem (by omega);have hgz:=gL hz;generalize l[k]=z at hz hgz;have hbz:=(j4 k (Nat.le_refl _)).trans (hlo.down k z hki hz);have hqz:=uZ hbz;have u1:decide ((k:Int)<(i:Int))=true:=decide_eq_true (by omega);have u2:(k:Int)<(l.length:Int):=by omega
    have u3:(0:Int)<=k:=by omega
    have u4:IntKind.i64.wrap ((k:Int)+1)=k+1:=wrap_i64 (by omega) (by omega);have stay:(z.i==x.p || z.i==x.s)=false->(k+1<=i/\B2.length=l.length/\(∀(j:Nat) (y:Ly),j<k+1->l[j]?=some y->B2[j]?=some (W.contains y.i || (y.i==x.p || y.i==x.s)))/\∀j,k+1<=j->B2[j]?=B1[j]?):=λhc=>⟨by omega,j2,λj y hj hy=>by
     rcases Nat.lt_or_ge j k with h|h
     .exact j3 j y h hy
     .have:j=k:=by omega
      subst this;rw[hz] at hy;cases hy;rw[hbz,hc,Bool.or_false],λj hj=>j4 j (by omega)⟩
    have turn:(z.i==x.p || z.i==x.s)=true->(k+1<=i/\(B2.set k true).length=l.length/\(∀(j:Nat) (y:Ly),j<k+1->l[j]?=some y->(B2.set k true)[j]?=some (W.contains y.i || (y.i==x.p || y.i==x.s)))/\∀j,k+1<=j->(B2.set k true)[j]?=B1[j]?):=λhc=>⟨by omega,by rw[List.length_set];exact j2,λj y hj hy=>by
     rcases Nat.lt_or_ge j k with h|h
     .rw[List.getElem?_set_ne (by omega)];exact j3 j y h hy
     .have:j=k:=by omega
      subst this;rw[hz] at hy;cases hy;rw[List.getElem?_set_self (by omega),hc,Bool.or_true],λj hj=>by rw[List.getElem?_set_ne (by omega)];exact j4 j (by omega)⟩
    have stay:=PLift.up stay;have turn:=PLift.up turn;clear j3 j4 hz hbz hlo hY;cases hp:(z.i==x.p)<;>cases hs:(z.i==x.s)
    .repeat' (first|exact⟨⟩|refine sp ?_|((refine aG (id:=11) aF aL [] [0,1,2,3,4,5,6,7,8,9,10,11,12,13,14,15,16,17,18,19,20,21,22,23] (by decide +kernel) ?_);(repeat' (first|(refine aP ?_)|((refine bI ?_ rfl rfl ?_ ?_);(rotate_left 1);(focus ((repeat' (first|exact⟨⟩|refine sp ?_));exact rfl));(simp only[aB]))))))
     exact fL (k+1,B2) (stay.down (by rw[hp,hs];rfl)) (by simp only;omega) (aS (aD rfl rfl rfl wkK))
    all_goals
     repeat' (first|exact⟨⟩|refine sp ?_|((refine aG (id:=11) aF aL [] [0,1,2,3,4,5,6,7,8,9,10,11,12,13,14,15,16,17,18,19,20,21,22,23] (by decide +kernel) ?_);(repeat' (first|(refine aP ?_)|((refine bI ?_ rfl rfl ?_ ?_);(rotate_left 1);(focus ((repeat' (first|exact⟨⟩|refine sp ?_));exact rfl));(simp only[aB])))))|refine ai ?_)
     exact fL (k+1,B2.set k true) (turn.down (by rw[hp,hs];rfl)) (by simp only;omega) (aS (aD rfl rfl rfl wkK))
   .have hke:k=i:=by omega
    subst hke;have hN:=PLift.up (hY.down B2 j2 j3 j4);have u1:decide ((k:Int)<(k:Int))=false:=decide_eq_false (by omega);clear j3 j4 hlo hY
    repeat' (first|exact⟨⟩|refine sp ?_)
    exact fL (k,B2) ⟨_,hN.down⟩ (by simp only;omega) (aS (aD rfl rfl rfl wkK))
  .clear hBB hb
   repeat' (first|exact⟨⟩|refine sq ?_)
   refine bO aF aL (α:=Nat × List Bool) (λz=>⟨86,[(0,.c (.p (.sl 4 (cN l)))),(1,.c (.p (.i .i64 a))),(5,.c (.own 0 0 l.length)),(6,.c (.p (.i .i64 i))),(7,.c (.p (.i .i64 z.1)))],[.arr 1 (QT z.2) false]⟩)
    (λz=>z.1<=i/\z.2.length=l.length/\(∀(j:Nat) (y:Ly),j<z.1->l[j]?=some y->z.2[j]?=some (W.contains y.i || (y.i==x.p || y.i==x.s)))/\∀j,z.1<=j->z.2[j]?=B1[j]?) (λz=>i-z.1) (0,B1) ⟨Nat.zero_le _,hB1l,λj y h=>by omega,λ_ _=>rfl⟩ (aS (aD (by rw[hX];rfl) rfl rfl wkK)) ?_
   rintro⟨k,B2⟩ ⟨j1,j2,j3,j4⟩;simp only at j1 j2 j3 j4;by_cases hki:k<i
   .have hz:l[k]?=some l[k]:=List.getElem?_eq_getElem (by omega);have hgz:=gL hz;generalize l[k]=z at hz hgz;have hbz:=(j4 k (Nat.le_refl _)).trans (hlo.down k z hki hz);have hqz:=uZ hbz;have u1:decide ((k:Int)<(i:Int))=true:=decide_eq_true (by omega);have u2:(k:Int)<(l.length:Int):=by omega
    have u3:(0:Int)<=k:=by omega
    have u4:IntKind.i64.wrap ((k:Int)+1)=k+1:=wrap_i64 (by omega) (by omega);have stay:(z.i==x.p || z.i==x.s)=false->(k+1<=i/\B2.length=l.length/\(∀(j:Nat) (y:Ly),j<k+1->l[j]?=some y->B2[j]?=some (W.contains y.i || (y.i==x.p || y.i==x.s)))/\∀j,k+1<=j->B2[j]?=B1[j]?):=λhc=>⟨by omega,j2,λj y hj hy=>by
     rcases Nat.lt_or_ge j k with h|h
     .exact j3 j y h hy
     .have:j=k:=by omega
      subst this;rw[hz] at hy;cases hy;rw[hbz,hc,Bool.or_false],λj hj=>j4 j (by omega)⟩
    have turn:(z.i==x.p || z.i==x.s)=true->(k+1<=i/\(B2.set k true).length=l.length/\(∀(j:Nat) (y:Ly),j<k+1->l[j]?=some y->(B2.set k true)[j]?=some (W.contains y.i || (y.i==x.p || y.i==x.s)))/\∀j,k+1<=j->(B2.set k true)[j]?=B1[j]?):=λhc=>⟨by omega,by rw[List.length_set];exact j2,λj y hj hy=>by
     rcases Nat.lt_or_ge j k with h|h
     .rw[List.getElem?_set_ne (by omega)];exact j3 j y h hy
     .have:j=k:=by omega
      subst this;rw[hz] at hy;cases hy;rw[List.getElem?_set_self (by omega),hc,Bool.or_true],λj hj=>by rw[List.getElem?_set_ne (by omega)];exact j4 j (by omega)⟩
    have stay:=PLift.up stay;have turn:=PLift.up turn;clear j3 j4 hz hbz hlo hY;cases hp:(z.i==x.p)<;>cases hs:(z.i==x.s)
    .repeat' (first|exact⟨⟩|refine sp ?_|((refine aG (id:=11) aF aL [] [0,1,2,3,4,5,6,7,8,9,10,11,12,13,14,15,16,17,18,19,20,21,22,23] (by decide +kernel) ?_);(repeat' (first|(refine aP ?_)|((refine bI ?_ rfl rfl ?_ ?_);(rotate_left 1);(focus ((repeat' (first|exact⟨⟩|refine sp ?_));exact rfl));(simp only[aB]))))))
     exact fL (k+1,B2) (stay.down (by rw[hp,hs];rfl)) (by simp only;omega) (aS (aD rfl rfl rfl wkK))
    all_goals
     repeat' (first|exact⟨⟩|refine sp ?_|((refine aG (id:=11) aF aL [] [0,1,2,3,4,5,6,7,8,9,10,11,12,13,14,15,16,17,18,19,20,21,22,23] (by decide +kernel) ?_);(repeat' (first|(refine aP ?_)|((refine bI ?_ rfl rfl ?_ ?_);(rotate_left 1);(focus ((repeat' (first|exact⟨⟩|refine sp ?_));exact rfl));(simp only[aB])))))|refine ai ?_)
     exact fL (k+1,B2.set k true) (turn.down (by rw[hp,hs];rfl)) (by simp only;omega) (aS (aD rfl rfl rfl wkK))
   .have hke:k=i:=by omega
    subst hke;have hN:=PLift.up (hY.down B2 j2 j3 j4);have u1:decide ((k:Int)<(k:Int))=false:=decide_eq_false (by omega);clear j3 j4 hlo hY
    repeat' (first|exact⟨⟩|refine sp ?_)
    exact fL (k,B2) ⟨_,hN.down⟩ (by simp only;omega) (aS (aD rfl rfl rfl wkK))
 | zero =>
  have e1:(((0:Nat):Int)-1) = -1:=rfl;rw[e1];have hBl:=hA.len;have hE:=PLift.up hA.end_;clear hA
  repeat' (first|exact⟨⟩|refine sp ?_)
  refine bO aF aL (α:=Nat) (λk=>⟨86,[(0,.c (.p (.sl 4 (cN l)))),(5,.c (.own 0 0 l.length)),(8,.c (.own 1 0 (NJ (l.take k) (B.take k)).length)),(9,.c (.p (.i .i64 k)))],[.arr 1 (QT B) false,.arr 1 (cG (NJ (l.take k) (B.take k))) false]⟩)
   (λk=>k<=l.length) (λk=>l.length-k) 0 (Nat.zero_le _) ((iV 8 1 rfl).trans (aS (aD (by rw[hX];rfl) rfl rfl wkK))) ?_
  intro k hk;by_cases hlt:k<l.length
  .have hx:l[k]?=some l[k]:=List.getElem?_eq_getElem hlt;have hg:=gL hx;generalize l[k]=x at hx hg;obtain⟨q,hq⟩:∃q,B[k]?=some q:=⟨_,List.getElem?_eq_getElem (by omega)⟩;have hqq:=uZ hq;have hsn:=NK hx hq;have hol:(NJ (l.take k) (B.take k)).length<=k:=Nat.le_trans (XT _ _) (List.length_take_le ..);have h1:decide ((k:Int)<(l.length:Int))=true:=decide_eq_true (by omega);have h2:(k:Int)<(l.length:Int):=by omega
   have h3:(0:Int)<=k:=by omega
   have w1:IntKind.i64.wrap ((k:Int)+1)=k+1:=wrap_i64 (by omega) (by omega);generalize NJ (l.take k) (B.take k)=O at hsn hol ⊢;have hsn:=PLift.up hsn;clear hx hq;cases q
   .repeat' (first|exact⟨⟩|refine sp ?_)
    exact fL (k+1) (by omega) (by omega) (by rw[hsn.down];simp only[Bool.false_eq_true,if_false,List.append_nil];exact aS (aD rfl rfl rfl wkK))
   .repeat' (first|exact⟨⟩|refine sp ?_|((with_reducible refine And.intro ?_ ?_);((first|omega|decide))))
    exact fL (k+1) (by omega) (by omega) (by rw[hsn.down];simp only[if_true,List.length_append,List.length_cons,List.length_nil];exact cH (dQ [0,3] rfl hpK rfl wpK))
  .have hke:k=l.length:=by omega
   subst hke;have h1:decide ((l.length:Int)<(l.length:Int))=false:=decide_eq_false (by omega);rw[List.take_length,List.take_of_length_le (by omega:B.length<=l.length),hE.down]
   repeat' (first|exact⟨⟩|refine sp ?_)
   all_goals first|exact .inr ⟨_,rfl⟩|rfl|skip
theorem WB{α:Type}(p:α->Bool){l:List α}{k:Nat}{x:α}(h:l[k]?=some x):(l.take (k+1)).any p=((l.take k).any p || p x):=by
 rw[List.take_add_one,h];simp
theorem zJ6(A:List Int)(v:Int):(A.any λz=>z==v)=A.contains v:=by
 rw[Bool.eq_iff_iff,List.any_eq_true,List.contains_iff_mem];constructor
 .rintro⟨z,h,e⟩;rw[<- eq_of_beq e];exact h
 .intro h;exact⟨v,h,by simp⟩
theorem SJ{α:Type}(p:α->Bool){l:List α}{k:Nat}{x:α}(h:l[k]?=some x):(l.take (k+1)).filter p=(l.take k).filter p++(if p x then [x] else []):=by
 rw[List.take_add_one,h,List.filter_append];cases hp:p x<;>simp[hp]
theorem zK2{l:List Ly}{ids:List Int}(hl:l.length<=100000)(hi:ids.length<=100000):aA prog 39 [.c (.p (.sl 4 (cN l))),.c (.p (.sl 1 (cG ids)))] [] λr h=>r=.c (.p (.sl 4 (cN (gX l ids))))/\h=[]:=by
 obtain⟨F,hF⟩:∃F:Ly->Bool,F=λx=>ids.any λid=>(lW l id).contains x.i:=⟨_,rfl⟩;have hk:gX l ids=l.filter F:=by rw[hF];rfl
 rw[hk];refine aH ?_;refine eT func39 λX0 hX=>?_;simp only[f39,go_sem]
 repeat' (first|exact⟨⟩|refine sp ?_)
 refine bO aF aL (α:=Nat) (λi=>⟨57,[(0,.c (.p (.sl 4 (cN l)))),(1,.c (.p (.sl 1 (cG ids)))),(5,.c (.own 0 0 ((l.take i).filter F).length)),(6,.c (.p (.i .i64 i)))],[.arr 4 (cN ((l.take i).filter F)) false]⟩)
  (λi=>i<=l.length) (λi=>l.length-i) 0 (Nat.zero_le _) ((iV 5 4 rfl).trans (aS (aD (by rw[hX];rfl) rfl rfl wkK))) ?_
 intro i hi';by_cases hlt:i<l.length
 .have hx:l[i]?=some l[i]:=List.getElem?_eq_getElem hlt;have hg:=gL hx;generalize l[i]=x at hx hg;have hsn:=PLift.up (SJ F hx);have hFx:F x=ids.any λid=>(lW l id).contains x.i:=by rw[hF]
  have hol:((l.take i).filter F).length<=i:=Nat.le_trans (List.length_filter_le _ _) (List.length_take_le ..);have h1:decide ((i:Int)<(l.length:Int))=true:=decide_eq_true (by omega);have h2:(i:Int)<(l.length:Int):=by omega
  have h3:(0:Int)<=i:=by omega
  have w1:IntKind.i64.wrap ((i:Int)+1)=i+1:=wrap_i64 (by omega) (by omega);generalize (l.take i).filter F=O at hsn hol ⊢;clear hx hF hk
  repeat' (first|exact⟨⟩|refine sp ?_)
  refine bO aF aL (α:=Nat) (λk=>⟨57,[(0,.c (.p (.sl 4 (cN l)))),(1,.c (.p (.sl 1 (cG ids)))),(5,.c (.own 0 0 O.length)),(6,.c (.p (.i .i64 i))),(7,.c (.p (.b ((ids.take k).any λid=>(lW l id).contains x.i)))),(8,.c (.p (.i .i64 k)))],[.arr 4 (cN O) false]⟩)
   (λk=>k<=ids.length) (λk=>ids.length-k) 0 (Nat.zero_le _) (aS (aD (by rw[hX];rfl) rfl rfl wkK)) ?_
  intro k hk;by_cases hkl:k<ids.length
  .have hd:ids[k]?=some ids[k]:=List.getElem?_eq_getElem hkl;have hgd:=lO hd;have hac:=zMn (l:=l) (a:=ids[k]) hl;have hal:=sD l ids[k];have hsd:=WB (λid=>(lW l id).contains x.i) hd;have u1:decide ((k:Int)<(ids.length:Int))=true:=decide_eq_true (by omega);have u2:(k:Int)<(ids.length:Int):=by omega
   have u3:(0:Int)<=k:=by omega
   have u4:IntKind.i64.wrap ((k:Int)+1)=k+1:=wrap_i64 (by omega) (by omega);rw[<- zJ6] at hsd;generalize ids[k]=d at hd hgd hac hal hsd;generalize lW l d=A at hac hal hsd;generalize (ids.take k).any (λid=>(lW l id).contains x.i)=K at hsd ⊢;have hsd:=PLift.up hsd;clear hd
   repeat' (first|exact⟨⟩|refine sp ?_|refine uN (hac) ?_)
   refine bO aF aL (α:=Nat) (λj=>⟨57,[(0,.c (.p (.sl 4 (cN l)))),(1,.c (.p (.sl 1 (cG ids)))),(5,.c (.own 0 0 O.length)),(6,.c (.p (.i .i64 i))),(7,.c (.p (.b (K || (A.take j).any λz=>z==x.i)))),(8,.c (.p (.i .i64 k))),(9,.c (.p (.sl 1 (cG A)))),(10,.c (.p (.i .i64 j)))],[.arr 4 (cN O) false]⟩)
    (λj=>j<=A.length) (λj=>A.length-j) 0 (Nat.zero_le _) (aS (aD (by rw[hX];rfl) (by simp) rfl (by simp only[List.take_zero,List.any_nil,Bool.or_false];exact wkK))) ?_
   intro j hj;by_cases hjl:j<A.length
   .have hz:A[j]?=some A[j]:=List.getElem?_eq_getElem hjl;have hgz:=lO hz;have hsz:=WB (λz=>z==x.i) hz;have v1:decide ((j:Int)<(A.length:Int))=true:=decide_eq_true (by omega);have v2:(j:Int)<(A.length:Int):=by omega
    have v3:(0:Int)<=j:=by omega
    have v4:IntKind.i64.wrap ((j:Int)+1)=j+1:=wrap_i64 (by omega) (by omega);generalize A[j]=z at hz hgz hsz;have hsz:(K || (A.take (j+1)).any λz=>z==x.i)=((K || (A.take j).any λz=>z==x.i) || (z==x.i)):=by rw[hsz,Bool.or_assoc]
    generalize (K || (A.take j).any λz=>z==x.i)=M at hsz ⊢;have hsz:=PLift.up hsz;clear hz hac;cases M<;>cases hq:(z==x.i)
    all_goals
     repeat' (first|exact⟨⟩|refine sp ?_|((refine aG (id:=13) aF aL [] [0,1,2,3,4,5,6,7,8,9,10,11,12,13] (by decide +kernel) ?_);(repeat' (first|(refine aP ?_)|((refine bI ?_ rfl rfl ?_ ?_);(rotate_left 1);(focus ((repeat' (first|exact⟨⟩|refine sp ?_));exact rfl));(simp only[aB]))))))
     exact fL (j+1) (by omega) (by omega) (by rw[hsz.down,hq];exact aS (aD rfl rfl rfl wkK))
   .have hje:j=A.length:=by omega
    subst hje;rw[List.take_length];have v1:decide ((A.length:Int)<(A.length:Int))=false:=decide_eq_false (by omega);clear hac
    repeat' (first|exact⟨⟩|refine sp ?_)
    exact fL (k+1) (by omega) (by omega) (by rw[hsd.down];exact aS (aD rfl rfl rfl wkK))
  .have hke:k=ids.length:=by omega
   subst hke;rw[List.take_length,<- hFx];have u1:decide ((ids.length:Int)<(ids.length:Int))=false:=decide_eq_false (by omega);cases hq:F x
   .repeat' (first|exact⟨⟩|refine sp ?_)
    exact fL (i+1) (by omega) (by omega) (by rw[hsn.down,hq];simp only[Bool.false_eq_true,if_false,List.append_nil];exact aS (aD rfl rfl rfl wkK))
   .repeat' (first|exact⟨⟩|refine sp ?_|((with_reducible refine And.intro ?_ ?_);((first|omega|decide))))
    exact fL (i+1) (by omega) (by omega) (by rw[hsn.down,hq];simp only[if_true,List.length_append,List.length_cons,List.length_nil];exact cH (dQ [2] rfl hpK rfl wpK))
 .have hie:i=l.length:=by omega
  subst hie;rw[List.take_length];have h1:decide ((l.length:Int)<(l.length:Int))=false:=decide_eq_false (by omega)
  repeat' (first|exact⟨⟩|refine sp ?_)
  all_goals (repeat' (first|exact rfl|exact .inr ⟨_,rfl⟩|refine And.intro ?_ ?_))
end Go.Proofs.YtlbfnbldeefgmaaGreatDoor
end
