/- Part 31 of the proof of roomDeep_card, set without needless blanks. No condition. -/
import Derived.Test.YtlbfnbldeefgmaaGreatDoorC29
set_option linter.all false
section
namespace Go.Proofs.YtlbfnbldeefgmaaGreatDoor
open Go Go.Dm Go.Proofs
set_option maxRecDepth 100000
set_option maxHeartbeats 8000000
abbrev ecv (p:List UInt8) (k:Int) (o:Bool) (nk nm:Int) (nt:Nat) (nd:List UInt8):List CV:=[.p (.s p),.p (.i .i64 k),.p (.b o),.p (.i .i64 nk),.p (.i .i64 nm),.p (.f nt),.p (.sl 1 (bW nd))]
theorem NA {p:List UInt8} {k nk nm:Int} {o:Bool} {nt:Nat} {nd:List UInt8}:aA Tryz.prog 346 [.agg (ecv p k o nk nm nt nd)] [] fun r h=>r=.c (.p (.b (gP ⟨p,k,o,⟨nk,nm,nt,nd⟩⟩)))∧h=[]:=by
 refine ent aC aK Tryz.func346 rfl rfl fun X0 hX=>?_;simp only [Tryz.f346,go_sem]
 repeat' (first|simp only [*,go_sem,Nat.reduceLT,Nat.reduceEqDiff,↓reduceIte,]|with_reducible refine cL (fun _=>?_) (fun _=>?_))
 all_goals simp_all [gP]
theorem zHS {k m:Int} {t:Nat} {d:List UInt8}:aA Tryz.prog 383 [.agg (ndc k m t d)] [] fun r h=>r=.c (.p (.b (VY ⟨k,m,t,d⟩)))∧h=[]:=by
 refine ent aC aK Tryz.func383 rfl rfl fun X0 hX=>?_;simp only [Tryz.f383,go_sem]
 repeat' (first|simp only [*,go_sem,Nat.reduceLT,Nat.reduceEqDiff,↓reduceIte,]|((with_reducible refine aQ (ED _) ?_ ?_ ?_);exact rfl;exact rfl)|with_reducible refine cL (fun _=>?_) (fun _=>?_))
 all_goals first|(simp_all [VY];done)|(simp_all [VY];rw [Bool.eq_iff_iff];simp)
theorem zII {p:List UInt8} {k nk nm:Int} {o:Bool} {nt:Nat} {nd:List UInt8} (hp:p.length≤1000000000) (ht:nt<18446744073709551616):
  aA Tryz.prog 345 [.agg (ecv p k o nk nm nt nd)] [] fun r h=>r=.c (.p (.b (zFz ⟨p,k,o,⟨nk,nm,nt,nd⟩⟩)))∧h=[]:=by
 have hip:=fA hp;have hz:=zHS (k:=nk) (m:=nm) (t:=nt) (d:=nd);have hn:=eC (k:=nk) (m:=nm) (d:=nd) ht;unfold zFz;simp only;generalize cJ p=ip at *;generalize VY ⟨nk,nm,nt,nd⟩=z at *;generalize aV ⟨nk,nm,nt,nd⟩=rn at *;cases ip <;> cases z <;> cases rn <;> cases o
 all_goals
  refine ent aC aK Tryz.func345 rfl rfl fun X0 hX=>?_;simp only [Tryz.f345,go_sem]
 all_goals repeat' (first|simp only [*,go_sem,Nat.reduceLT,Nat.reduceLeDiff,Nat.reduceEqDiff,↓reduceIte,Nat.reduceAdd,Bool.not_true,Bool.not_false]|((with_reducible refine aQ (hip) ?_ ?_ ?_);exact rfl;exact rfl)|((with_reducible refine aQ (hz) ?_ ?_ ?_);exact rfl;exact rfl)|((with_reducible refine aQ (hn) ?_ ?_ ?_);exact rfl;exact rfl)|with_reducible refine aR (fun _=>?_) (fun _=>?_)|with_reducible refine cL (fun _=>?_) (fun _=>?_))
 all_goals simp_all
theorem GM {l:List En} (h:OkE l):aA Tryz.prog 284 [.c (.p (.sl 7 (eZ l)))] [] fun r h=>r=.c (.p (.b true))∧h=[]:=by
 have hll:=h.len;refine ent aC aK Tryz.func284 rfl rfl fun X0 hX=>?_;simp only [Tryz.f284,go_sem]
 repeat' (simp only [*,go_sem,Nat.reduceLT,Nat.reduceEqDiff,↓reduceIte,])
 refine bQ aC aK (α:=Nat) (fun k=>⟨51,[(0,.c (.p (.sl 7 (eZ l)))),(7,.c (.p (.sl 7 (eZ l)))),(8,.c (.p (.i .i64 l.length))),(9,.c (.p (.i .i64 k)))],[]⟩)
  (fun k=>k≤l.length) (fun k=>l.length-k) 0 (Nat.zero_le _) (.inl (aJ (by rw [hX];rfl) rfl rfl (by simp [aH,aN,aD,aL,aG,]))) ?_
 intro k hk;by_cases hlt:k<l.length
 ·have hx:l[k]? = some l[k]:=List.getElem?_eq_getElem hlt;have hg:=nX hx;have h1:decide ((k:Int)<(l.length:Int))=true:=decide_eq_true (by omega);have w1:IntKind.i64.wrap ((k:Int)+1)=k+1:=wrap_i64 (by omega) (by omega);have hk0:(0:Int)≤k:=by omega
  have hkl:(k:Int)≤l.length:=by omega
  have prev:k=0∨∃ m:Nat,∃ y:En,decide ((0:Int)<k)=true∧IntKind.i64.wrap ((k:Int)-1)=(m:Int)∧m<l.length∧l[m]? = some y∧(bZ l[k].p y.p || l[k].p == y.p)=false:=by
   by_cases h0:0<k
   ·have hmk:k-1<l.length:=by omega
    have h3:=List.pairwise_iff_getElem.1 h.srt (k-1) k hmk hlt (by omega);refine .inr ⟨k-1,l[k-1],decide_eq_true (by omega),?_,hmk,List.getElem?_eq_getElem hmk,?_⟩
    ·rw [wrap_i64 (by omega) (by omega)];omega
    ·rw [gJ h3];cases he:(l[k].p == l[k-1].p)
     ·rfl
     ·rw [eq_of_beq he,cR] at h3;cases h3
   ·exact .inl (by omega)
  have hmx:=h.may _ (List.getElem_mem hlt);have p1:=h.plen _ (List.getElem_mem hlt);have p2:=h.tlen _ (List.getElem_mem hlt);have hop:∀ j y,l[j]? = some y→j<k→(gP y && aM y.p l[k].p)=false:=fun j y hy hj=>by
   obtain ⟨hj2,rfl⟩:=List.getElem?_eq_some_iff.1 hy;exact List.pairwise_iff_getElem.1 h.open_ j k hj2 hlt hj
  have hpl:=h.plen;generalize l[k]=x at hx hg prev hmx p1 p2 hop;have hc:=zII (p:=x.p) (k:=x.k) (o:=x.o) (nk:=x.n.k) (nm:=x.n.m) (nt:=x.n.t) (nd:=x.n.d) (by omega) p2;rw [show (⟨x.p,x.k,x.o,⟨x.n.k,x.n.m,x.n.t,x.n.d⟩⟩:En)=x from rfl,hmx] at hc
  have htk:(l.take k).length=k:=by rw [List.length_take];omega
  clear hmx h hx;rcases prev with h0|⟨m,y,b1,b2,b3,b4,b5⟩
  ·have b1:decide ((0:Int)<(k:Int))=false:=decide_eq_false (by omega);clear h0
   repeat' (first|simp only [*,go_sem,Nat.reduceLT,Nat.reduceLeDiff,Nat.reduceEqDiff,↓reduceIte,Nat.reduceAdd,Int.reduceLE,Int.reduceToNat,]|((refine aO (id:=4) aC aK [] [0,1,2,3,4,5,6,7,8,9,10,11,12,13,14,15,16,17] (by decide +kernel) ?_);(repeat' (first|(refine bC ?_)|((refine dF ?_ rfl rfl ?_ ?_);(rotate_left 1);(focus ((repeat' (first|simp only [*,go_sem,Nat.reduceLT,Nat.reduceLeDiff,Nat.reduceEqDiff,↓reduceIte,Nat.reduceAdd,Bool.not_true]|((with_reducible refine aQ (hc) ?_ ?_ ?_);exact rfl;exact rfl)));exact rfl));(simp only [aF])))))|((with_reducible refine And.intro ?_ ?_);omega))
   refine pR (α:=Nat) (fun j=>⟨51,[(0,.c (.p (.sl 7 (eZ l)))),(7,.c (.p (.sl 7 (eZ l)))),(8,.c (.p (.i .i64 l.length))),(9,.c (.p (.i .i64 k))),(4,.c (.ptr 0 0)),(34,.c (.p (.sl 7 (eZ (l.take k))))),(35,.c (.p (.i .i64 k))),(36,.c (.p (.i .i64 j)))],[.box (ecv x.p x.k x.o x.n.k x.n.m x.n.t x.n.d)]⟩)
    (fun j=>j≤k) (fun j=>k-j) 0 (Nat.zero_le _) (.inl (aJ (by rw [hX];rfl) rfl rfl (by simp [aH,aN,aD,aL,aG,]))) ?_
   intro j hj;by_cases hjk:j<k
   ·have hjl:j<l.length:=by omega
    have hz:(l.take k)[j]? = some l[j]:=by rw [List.getElem?_take,if_pos hjk];exact List.getElem?_eq_getElem hjl
    have hgz:=nX hz;have hoz:=hop j l[j] (List.getElem?_eq_getElem hjl) hjk;have hzp:=hpl _ (List.getElem_mem hjl);have h2:decide ((j:Int)<(k:Int))=true:=decide_eq_true (by omega);have w2:IntKind.i64.wrap ((j:Int)+1)=j+1:=wrap_i64 (by omega) (by omega);have hjk2:(j:Int)<(k:Int):=by omega
    have hjm:(j:Int)<(min k l.length:Nat):=by omega
    have hj0:(0:Int)≤j:=by omega
    generalize l[j]=z at hz hgz hoz hzp;have hsh:=NA (p:=z.p) (k:=z.k) (o:=z.o) (nk:=z.n.k) (nm:=z.n.m) (nt:=z.n.t) (nd:=z.n.d);rw [show (⟨z.p,z.k,z.o,⟨z.n.k,z.n.m,z.n.t,z.n.d⟩⟩:En)=z from rfl] at hsh
    clear hop hpl hz;refine gV aC aK ?_;cases hsz:gP z
    ·rw [hsz] at hsh
     repeat' (first|simp only [*,go_sem,Nat.reduceLT,Nat.reduceLeDiff,Nat.reduceEqDiff,↓reduceIte,Nat.reduceAdd,]|((with_reducible refine aQ (hsh) ?_ ?_ ?_);exact rfl;exact rfl))
     exact jC (j+1) (by omega) (by omega) (aJ rfl rfl rfl (by simp [aH,aN,aD,aL,aG,]))
    ·rw [hsz] at hsh hoz;rw [Bool.true_and] at hoz
     repeat' (first|simp only [*,go_sem,Nat.reduceLT,Nat.reduceLeDiff,Nat.reduceEqDiff,↓reduceIte,Nat.reduceAdd,]|((with_reducible refine aQ (hsh) ?_ ?_ ?_);exact rfl;exact rfl)|((with_reducible refine aQ (cE (p:=z.p) (by omega)) ?_ ?_ ?_);exact rfl;exact rfl))
     exact jC (j+1) (by omega) (by omega) (aJ rfl rfl rfl (by simp [aH,aN,aD,aL,aG,]))
   ·have h2:decide ((j:Int)<(k:Int))=false:=decide_eq_false (by omega);clear hop hpl;refine gV aC aK ?_
    repeat' (simp only [*,go_sem,Nat.reduceLT,Nat.reduceEqDiff,↓reduceIte,])
    exact jC (k+1) (by omega) (by omega) (aJ rfl rfl rfl (by simp [aH,aN,aD,aL,aG,]))
  ·have hgy:=nX b4;have b6:(m:Int)<l.length:=by omega
   repeat' (first|simp only [*,go_sem,Nat.reduceLT,Nat.reduceLeDiff,Nat.reduceEqDiff,↓reduceIte,Nat.reduceAdd,Int.reduceLE,Int.reduceToNat,]|((refine aO (id:=4) aC aK [] [0,1,2,3,4,5,6,7,8,9,10,11,12,13,14,15,16,17] (by decide +kernel) ?_);(repeat' (first|(refine bC ?_)|((refine dF ?_ rfl rfl ?_ ?_);(rotate_left 1);(focus ((repeat' (first|simp only [*,go_sem,Nat.reduceLT,Nat.reduceLeDiff,Nat.reduceEqDiff,↓reduceIte,Nat.reduceAdd,Bool.not_true]|((with_reducible refine aQ (hc) ?_ ?_ ?_);exact rfl;exact rfl)|((with_reducible refine And.intro ?_ ?_);omega)));exact rfl));(simp only [aF])))))|((with_reducible refine And.intro ?_ ?_);omega))
   refine pR (α:=Nat) (fun j=>⟨51,[(0,.c (.p (.sl 7 (eZ l)))),(7,.c (.p (.sl 7 (eZ l)))),(8,.c (.p (.i .i64 l.length))),(9,.c (.p (.i .i64 k))),(4,.c (.ptr 0 0)),(34,.c (.p (.sl 7 (eZ (l.take k))))),(35,.c (.p (.i .i64 k))),(36,.c (.p (.i .i64 j)))],[.box (ecv x.p x.k x.o x.n.k x.n.m x.n.t x.n.d)]⟩)
    (fun j=>j≤k) (fun j=>k-j) 0 (Nat.zero_le _) (.inl (aJ (by rw [hX];rfl) rfl rfl (by simp [aH,aN,aD,aL,aG,]))) ?_
   intro j hj;by_cases hjk:j<k
   ·have hjl:j<l.length:=by omega
    have hz:(l.take k)[j]? = some l[j]:=by rw [List.getElem?_take,if_pos hjk];exact List.getElem?_eq_getElem hjl
    have hgz:=nX hz;have hoz:=hop j l[j] (List.getElem?_eq_getElem hjl) hjk;have hzp:=hpl _ (List.getElem_mem hjl);have h2:decide ((j:Int)<(k:Int))=true:=decide_eq_true (by omega);have w2:IntKind.i64.wrap ((j:Int)+1)=j+1:=wrap_i64 (by omega) (by omega);have hjk2:(j:Int)<(k:Int):=by omega
    have hjm:(j:Int)<(min k l.length:Nat):=by omega
    have hj0:(0:Int)≤j:=by omega
    generalize l[j]=z at hz hgz hoz hzp;have hsh:=NA (p:=z.p) (k:=z.k) (o:=z.o) (nk:=z.n.k) (nm:=z.n.m) (nt:=z.n.t) (nd:=z.n.d);rw [show (⟨z.p,z.k,z.o,⟨z.n.k,z.n.m,z.n.t,z.n.d⟩⟩:En)=z from rfl] at hsh
    clear hop hpl hz;refine gV aC aK ?_;cases hsz:gP z
    ·rw [hsz] at hsh
     repeat' (first|simp only [*,go_sem,Nat.reduceLT,Nat.reduceLeDiff,Nat.reduceEqDiff,↓reduceIte,Nat.reduceAdd,]|((with_reducible refine aQ (hsh) ?_ ?_ ?_);exact rfl;exact rfl))
     exact jC (j+1) (by omega) (by omega) (aJ rfl rfl rfl (by simp [aH,aN,aD,aL,aG,]))
    ·rw [hsz] at hsh hoz;rw [Bool.true_and] at hoz
     repeat' (first|simp only [*,go_sem,Nat.reduceLT,Nat.reduceLeDiff,Nat.reduceEqDiff,↓reduceIte,Nat.reduceAdd,]|((with_reducible refine aQ (hsh) ?_ ?_ ?_);exact rfl;exact rfl)|((with_reducible refine aQ (cE (p:=z.p) (by omega)) ?_ ?_ ?_);exact rfl;exact rfl))
     exact jC (j+1) (by omega) (by omega) (aJ rfl rfl rfl (by simp [aH,aN,aD,aL,aG,]))
   ·have h2:decide ((j:Int)<(k:Int))=false:=decide_eq_false (by omega);clear hop hpl;refine gV aC aK ?_
    repeat' (simp only [*,go_sem,Nat.reduceLT,Nat.reduceEqDiff,↓reduceIte,])
    exact jC (k+1) (by omega) (by omega) (aJ rfl rfl rfl (by simp [aH,aN,aD,aL,aG,]))
 ·have h1:decide ((k:Int)<(l.length:Int))=false:=decide_eq_false (by omega)
  repeat' (simp only [*,go_sem,Nat.reduceLT,Nat.reduceEqDiff,↓reduceIte,])
end Go.Proofs.YtlbfnbldeefgmaaGreatDoor
end
section
namespace Go.Proofs.YtlbfnbldeefgmaaGreatDoor
open Go Go.Dm
set_option maxRecDepth 100000
set_option maxHeartbeats 4000000
theorem zAS (x y:List UInt8):(bZ x y || x == y) = !bZ y x:=by
 cases h:bZ y x
 ·cases h2:bZ x y
  ·rw [fM h2 h];simp
  ·rfl
 ·rw [gJ h,Bool.false_or];cases he:(x == y)
  ·rfl
  ·rw [eq_of_beq he,cR] at h;cases h
theorem JL {t:List It} (hl:t.length≤1000000) (hp:∀ x∈t,x.p.length≤1000000000) (ht:∀ x∈t,x.n.t<18446744073709551616):
  aA Tryz.prog 158 [.c (.p (.sl 5 (aZ t)))] [] fun r h=>r=.c (.p (.b (lG t)))∧h=[]:=by
 refine ent aC aK Tryz.func158 rfl rfl fun X0 hX=>?_;simp only [Tryz.f158,go_sem]
 repeat' (simp only [*,go_sem,Nat.reduceLT,Nat.reduceEqDiff,↓reduceIte,])
 refine bQ aC aK (α:=Nat) (fun k=>⟨56,[(0,.c (.p (.sl 5 (aZ t)))),(5,.c (.p (.sl 5 (aZ t)))),(6,.c (.p (.i .i64 t.length))),(7,.c (.p (.i .i64 k)))],[]⟩)
  (fun k=>k≤t.length∧Srt (t.take k)∧eD (t.take k) (t.drop k)=eD [] t) (fun k=>t.length-k) 0 ⟨Nat.zero_le _,by simp,rfl⟩ (.inl (aJ (by rw [hX];rfl) rfl rfl (by simp [aH,aN,aD,aL,aG,]))) ?_
 rintro k ⟨hk,hst,hgo⟩;by_cases hlt:k<t.length
 ·have hx:t[k]? = some t[k]:=List.getElem?_eq_getElem hlt;have hg:=dD hx;have h1:decide ((k:Int)<(t.length:Int))=true:=decide_eq_true (by omega);have hki:(k:Int)≤(t.length:Int):=by omega
  have hk0:(0:Int)≤k:=by omega
  have w1:IntKind.i64.wrap ((k:Int)+1)=k+1:=wrap_i64 (by omega) (by omega);have prev:(decide ((0:Int)<k)=false∧nP (t.take k) t[k].p=true)∨∃ m:Nat,∃ y:It,decide ((0:Int)<k)=true∧IntKind.i64.wrap ((k:Int)-1)=(m:Int)∧(m:Int)<t.length∧t[m]? = some y∧(bZ t[k].p y.p || t[k].p == y.p) = !nP (t.take k) t[k].p:=by
   by_cases h0:0<k
   ·have hmk:k-1<t.length:=by omega
    refine .inr ⟨k-1,t[k-1],decide_eq_true (by omega),?_,by omega,List.getElem?_eq_getElem hmk,?_⟩
    ·rw [wrap_i64 (by omega) (by omega)];omega
    ·rw [zAS];unfold nP;rw [getLast_take h0 (by omega),List.getElem?_eq_getElem hmk]
   ·refine .inl ⟨decide_eq_false (by omega),?_⟩;have:k=0:=by omega
    subst this;rfl
  have hpl:=hp _ (List.getElem_mem hlt);have i4:=ht _ (List.getElem_mem hlt);have hisd:=eG (t:=t.take k) (p:=aP t[k].p) (by rw [List.length_take];omega) hst;have htk:(aZ t).take k=aZ (t.take k):=uV t k;have hdr:t.drop k=t[k]::t.drop (k+1):=List.drop_eq_getElem_cons hlt;have hnx:t.take (k+1)=t.take k++[t[k]]:=by rw [List.take_add_one,hx];rfl
  rw [hdr,eD] at hgo;have hsn:nP (t.take k) t[k].p=true→Srt (t.take k++[t[k]]):=fun h=>QD hst h;rw [← hnx] at hgo hsn;have hbad:jV (t.take k) t[k]=false→lG t=false:=fun h=>by
   rw [h,Bool.false_and] at hgo;rw [lG,← hgo];rfl
  have hgood:jV (t.take k) t[k]=true→eD (t.take (k+1)) (t.drop (k+1))=eD [] t:=fun h=>by
   rw [h,Bool.true_and] at hgo;exact hgo
  clear hgo hdr hnx;unfold jV at hbad hgood;generalize t[k]=x at hx hg prev hpl i4 hisd hsn hbad hgood;generalize nP (t.take k) x.p=a3 at prev hsn hbad hgood;generalize aU (t.take k) (aP x.p)=a5 at hisd hbad hgood;cases c1:(x.p == [])
  ·cases c2:cJ x.p
   ·have hf:=hbad (by rw [c1,c2];rfl);rw [hf];clear hf hbad hgood hsn hst hisd prev hp ht hx
    repeat' (first|simp only [*,go_sem,Nat.reduceLT,Nat.reduceLeDiff,Nat.reduceEqDiff,↓reduceIte,Nat.reduceAdd,]|((refine aO (id:=4) aC aK [] [0,1,2,3,4,5,6,7,8,9,10,11,12,13,14,15,16,17,18,19,20,21,22,23,24,25,26,27,28,29,30,31,32,33,34,35,36,37,38,39] (by decide +kernel) ?_);(repeat' (first|(refine bC ?_)|((refine dF ?_ rfl rfl ?_ ?_);(rotate_left 1);(focus ((repeat' (first|simp only [*,go_sem,Nat.reduceLT,Nat.reduceEqDiff,↓reduceIte,Bool.not_false]|((with_reducible refine aQ (fA (by omega)) ?_ ?_ ?_);exact rfl;exact rfl)));exact rfl));(simp only [aF])))))|((with_reducible refine And.intro ?_ ?_);omega))
   ·rcases prev with ⟨b1,rfl⟩|⟨m,y,b1,b2,b3,b4,b5⟩
    ·cases c4:aV x.n
     ·have hf:=hbad (by rw [c1,c2,c4];rfl);rw [hf];clear hf hbad hgood hsn hst hisd hp ht hx
      repeat' (first|simp only [*,go_sem,Nat.reduceLT,Nat.reduceLeDiff,Nat.reduceEqDiff,↓reduceIte,Nat.reduceAdd,]|((refine aO (id:=4) aC aK [] [0,1,2,3,4,5,6,7,8,9,10,11,12,13,14,15,16,17,18,19,20,21,22,23,24,25,26,27,28,29,30,31,32,33,34,35,36,37,38,39] (by decide +kernel) ?_);(repeat' (first|(refine bC ?_)|((refine dF ?_ rfl rfl ?_ ?_);(rotate_left 1);(focus ((repeat' (first|simp only [*,go_sem,Nat.reduceLT,Nat.reduceLeDiff,Nat.reduceEqDiff,↓reduceIte,Nat.reduceAdd,Bool.not_true,Bool.not_false]|((with_reducible refine aQ (fA (by omega)) ?_ ?_ ?_);exact rfl;exact rfl)|((with_reducible refine aQ (eC i4) ?_ ?_ ?_);exact rfl;exact rfl)));exact rfl));(simp only [aF])))))|((with_reducible refine And.intro ?_ ?_);omega))
     ·cases a5
      ·have hf:=hbad (by rw [c1,c2,c4];rfl);rw [hf];clear hf hbad hgood hsn hst hp ht hx
       repeat' (first|simp only [*,go_sem,Nat.reduceLT,Nat.reduceLeDiff,Nat.reduceEqDiff,↓reduceIte,Nat.reduceAdd,]|((refine aO (id:=4) aC aK [] [0,1,2,3,4,5,6,7,8,9,10,11,12,13,14,15,16,17,18,19,20,21,22,23,24,25,26,27,28,29,30,31,32,33,34,35,36,37,38,39] (by decide +kernel) ?_);(repeat' (first|(refine bC ?_)|((refine dF ?_ rfl rfl ?_ ?_);(rotate_left 1);(focus ((repeat' (first|simp only [*,go_sem,Nat.reduceLT,Nat.reduceLeDiff,Nat.reduceEqDiff,↓reduceIte,Nat.reduceAdd,Int.reduceLE,Int.reduceToNat,Bool.not_true,Bool.not_false]|((with_reducible refine aQ (fA (by omega)) ?_ ?_ ?_);exact rfl;exact rfl)|((with_reducible refine aQ (eC i4) ?_ ?_ ?_);exact rfl;exact rfl)|((with_reducible refine aQ (dQ (by omega)) ?_ ?_ ?_);exact rfl;exact rfl)|((with_reducible refine aQ (hisd) ?_ ?_ ?_);exact rfl;exact rfl)));exact rfl));(simp only [aF])))))|((with_reducible refine And.intro ?_ ?_);omega))
      ·have hJ:k+1≤t.length∧Srt (t.take (k+1))∧eD (t.take (k+1)) (t.drop (k+1))=eD [] t:=⟨by omega,hsn rfl,hgood (by rw [c1,c2,c4];rfl)⟩
       clear hbad hgood hsn hst hp ht hx
       repeat' (first|simp only [*,go_sem,Nat.reduceLT,Nat.reduceLeDiff,Nat.reduceEqDiff,↓reduceIte,Nat.reduceAdd,]|((refine aO (id:=4) aC aK [] [0,1,2,3,4,5,6,7,8,9,10,11,12,13,14,15,16,17,18,19,20,21,22,23,24,25,26,27,28,29,30,31,32,33,34,35,36,37,38,39] (by decide +kernel) ?_);(repeat' (first|(refine bC ?_)|((refine dF ?_ rfl rfl ?_ ?_);(rotate_left 1);(focus ((repeat' (first|simp only [*,go_sem,Nat.reduceLT,Nat.reduceLeDiff,Nat.reduceEqDiff,↓reduceIte,Nat.reduceAdd,Int.reduceLE,Int.reduceToNat,Bool.not_true]|((with_reducible refine aQ (fA (by omega)) ?_ ?_ ?_);exact rfl;exact rfl)|((with_reducible refine aQ (eC i4) ?_ ?_ ?_);exact rfl;exact rfl)|((with_reducible refine aQ (dQ (by omega)) ?_ ?_ ?_);exact rfl;exact rfl)|((with_reducible refine aQ (hisd) ?_ ?_ ?_);exact rfl;exact rfl)));exact rfl));(simp only [aF])))))|((with_reducible refine And.intro ?_ ?_);omega))
       exact jC (k+1) hJ (by omega) (aJ rfl rfl rfl (by simp [aH,aN,aD,aL,aG,]))
    ·have hgy:=dD b4;cases a3
     ·have hf:=hbad (by rw [c1,c2];rfl);rw [hf];rw [Bool.not_false] at b5;clear hf hbad hgood hsn hst hisd hp ht hx b4
      repeat' (first|simp only [*,go_sem,Nat.reduceLT,Nat.reduceLeDiff,Nat.reduceEqDiff,↓reduceIte,Nat.reduceAdd,]|((refine aO (id:=4) aC aK [] [0,1,2,3,4,5,6,7,8,9,10,11,12,13,14,15,16,17,18,19,20,21,22,23,24,25,26,27,28,29,30,31,32,33,34,35,36,37,38,39] (by decide +kernel) ?_);(repeat' (first|(refine bC ?_)|((refine dF ?_ rfl rfl ?_ ?_);(rotate_left 1);(focus ((repeat' (first|simp only [*,go_sem,Nat.reduceLT,Nat.reduceEqDiff,↓reduceIte,Bool.not_true]|((with_reducible refine aQ (fA (by omega)) ?_ ?_ ?_);exact rfl;exact rfl)|((with_reducible refine And.intro ?_ ?_);omega)));exact rfl));(simp only [aF])))))|((with_reducible refine And.intro ?_ ?_);omega))
     ·rw [Bool.not_true] at b5;cases c4:aV x.n
      ·have hf:=hbad (by rw [c1,c2,c4];rfl);rw [hf];clear hf hbad hgood hsn hst hisd hp ht hx b4
       repeat' (first|simp only [*,go_sem,Nat.reduceLT,Nat.reduceLeDiff,Nat.reduceEqDiff,↓reduceIte,Nat.reduceAdd,]|((refine aO (id:=4) aC aK [] [0,1,2,3,4,5,6,7,8,9,10,11,12,13,14,15,16,17,18,19,20,21,22,23,24,25,26,27,28,29,30,31,32,33,34,35,36,37,38,39] (by decide +kernel) ?_);(repeat' (first|(refine bC ?_)|((refine dF ?_ rfl rfl ?_ ?_);(rotate_left 1);(focus ((repeat' (first|simp only [*,go_sem,Nat.reduceLT,Nat.reduceLeDiff,Nat.reduceEqDiff,↓reduceIte,Nat.reduceAdd,Bool.not_true,Bool.not_false]|((with_reducible refine aQ (fA (by omega)) ?_ ?_ ?_);exact rfl;exact rfl)|((with_reducible refine aQ (eC i4) ?_ ?_ ?_);exact rfl;exact rfl)|((with_reducible refine And.intro ?_ ?_);omega)));exact rfl));(simp only [aF])))))|((with_reducible refine And.intro ?_ ?_);omega))
      ·cases a5
       ·have hf:=hbad (by rw [c1,c2,c4];rfl);rw [hf];clear hf hbad hgood hsn hst hp ht hx b4
        repeat' (first|simp only [*,go_sem,Nat.reduceLT,Nat.reduceLeDiff,Nat.reduceEqDiff,↓reduceIte,Nat.reduceAdd,]|((refine aO (id:=4) aC aK [] [0,1,2,3,4,5,6,7,8,9,10,11,12,13,14,15,16,17,18,19,20,21,22,23,24,25,26,27,28,29,30,31,32,33,34,35,36,37,38,39] (by decide +kernel) ?_);(repeat' (first|(refine bC ?_)|((refine dF ?_ rfl rfl ?_ ?_);(rotate_left 1);(focus ((repeat' (first|simp only [*,go_sem,Nat.reduceLT,Nat.reduceLeDiff,Nat.reduceEqDiff,↓reduceIte,Nat.reduceAdd,Int.reduceLE,Int.reduceToNat,Bool.not_true,Bool.not_false]|((with_reducible refine aQ (fA (by omega)) ?_ ?_ ?_);exact rfl;exact rfl)|((with_reducible refine aQ (eC i4) ?_ ?_ ?_);exact rfl;exact rfl)|((with_reducible refine aQ (dQ (by omega)) ?_ ?_ ?_);exact rfl;exact rfl)|((with_reducible refine aQ (hisd) ?_ ?_ ?_);exact rfl;exact rfl)|((with_reducible refine And.intro ?_ ?_);omega)));exact rfl));(simp only [aF])))))|((with_reducible refine And.intro ?_ ?_);omega))
       ·have hJ:k+1≤t.length∧Srt (t.take (k+1))∧eD (t.take (k+1)) (t.drop (k+1))=eD [] t:=⟨by omega,hsn rfl,hgood (by rw [c1,c2,c4];rfl)⟩
        clear hbad hgood hsn hst hp ht hx b4
        repeat' (first|simp only [*,go_sem,Nat.reduceLT,Nat.reduceLeDiff,Nat.reduceEqDiff,↓reduceIte,Nat.reduceAdd,]|((refine aO (id:=4) aC aK [] [0,1,2,3,4,5,6,7,8,9,10,11,12,13,14,15,16,17,18,19,20,21,22,23,24,25,26,27,28,29,30,31,32,33,34,35,36,37,38,39] (by decide +kernel) ?_);(repeat' (first|(refine bC ?_)|((refine dF ?_ rfl rfl ?_ ?_);(rotate_left 1);(focus ((repeat' (first|simp only [*,go_sem,Nat.reduceLT,Nat.reduceLeDiff,Nat.reduceEqDiff,↓reduceIte,Nat.reduceAdd,Int.reduceLE,Int.reduceToNat,Bool.not_true]|((with_reducible refine aQ (fA (by omega)) ?_ ?_ ?_);exact rfl;exact rfl)|((with_reducible refine aQ (eC i4) ?_ ?_ ?_);exact rfl;exact rfl)|((with_reducible refine aQ (dQ (by omega)) ?_ ?_ ?_);exact rfl;exact rfl)|((with_reducible refine aQ (hisd) ?_ ?_ ?_);exact rfl;exact rfl)|((with_reducible refine And.intro ?_ ?_);omega)));exact rfl));(simp only [aF])))))|((with_reducible refine And.intro ?_ ?_);omega))
        exact jC (k+1) hJ (by omega) (aJ rfl rfl rfl (by simp [aH,aN,aD,aL,aG,]))
  ·have hf:=hbad (by rw [c1];rfl);rw [hf];clear hf hbad hgood hsn hst hisd prev hp ht hx
   repeat' (first|simp only [*,go_sem,Nat.reduceLT,Nat.reduceLeDiff,Nat.reduceEqDiff,↓reduceIte,Nat.reduceAdd,]|((refine aO (id:=4) aC aK [] [0,1,2,3,4,5,6,7,8,9,10,11,12,13,14,15,16,17,18,19,20,21,22,23,24,25,26,27,28,29,30,31,32,33,34,35,36,37,38,39] (by decide +kernel) ?_);(repeat' (first|(refine bC ?_)|((refine dF ?_ rfl rfl ?_ ?_);(rotate_left 1);(focus ((repeat' (simp only [*,go_sem,Nat.reduceLT,Nat.reduceEqDiff,↓reduceIte,]));exact rfl));(simp only [aF])))))|((with_reducible refine And.intro ?_ ?_);omega))
 ·have h1:decide ((k:Int)<(t.length:Int))=false:=decide_eq_false (by omega);rw [List.drop_of_length_le (by omega),eD] at hgo;rw [lG,← hgo,Bool.true_and];clear hgo hst
  repeat' (simp only [*,go_sem,Nat.reduceLT,Nat.reduceEqDiff,↓reduceIte,])
end Go.Proofs.YtlbfnbldeefgmaaGreatDoor
end
