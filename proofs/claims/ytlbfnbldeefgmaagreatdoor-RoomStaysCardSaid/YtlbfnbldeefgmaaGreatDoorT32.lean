/- Part 33 of the proof of roomStays_card, set without needless blanks. No condition. -/
import Derived.Test.YtlbfnbldeefgmaaGreatDoorT31
set_option linter.all false
set_option maxRecDepth 100000
set_option maxHeartbeats 16000000
section
namespace Go.Proofs.YtlbfnbldeefgmaaGreatDoor
open Go Go.Dm Go.Proofs Go.Proofs.Tryz
abbrev ecv(p:List UInt8)(k:Int)(o:Bool)(nk nm:Int)(nt:Nat)(nd:List UInt8):List CV:=[.p (.s p),.p (.i .i64 k),.p (.b o),.p (.i .i64 nk),.p (.i .i64 nm),.p (.f nt),.p (.sl 1 (bJ nd))]
theorem WZ{p:List UInt8}{k nk nm:Int}{o:Bool}{nt:Nat}{nd:List UInt8}:aA prog 346 [.agg (ecv p k o nk nm nt nd)] [] λr h=>r=.c (.p (.b (jN ⟨p,k,o,⟨nk,nm,nt,nd⟩⟩)))/\h=[]:=by
 refine eT func346 λX0 hX=>?_;simp only[f346,go_sem]
 repeat' (first|exact⟨⟩|refine sp ?_|refine bM (λ_=>?_) (λ_=>?_))
 all_goals simp_all[jN]
theorem zM4{k m:Int}{t:Nat}{d:List UInt8}:aA prog 383 [.agg (ndc k m t d)] [] λr h=>r=.c (.p (.b (uR ⟨k,m,t,d⟩)))/\h=[]:=by
 refine eT func383 λX0 hX=>?_;simp only[f383,go_sem]
 repeat' (first|exact⟨⟩|refine sp ?_|refine uF (DU _) ?_|refine bM (λ_=>?_) (λ_=>?_))
 all_goals first|(simp_all[uR];done)|(simp_all[uR];rw[Bool.eq_iff_iff];simp)
theorem zOa{p:List UInt8}{k nk nm:Int}{o:Bool}{nt:Nat}{nd:List UInt8}(hp:p.length<=1000000000)(ht:nt<18446744073709551616):
  aA prog 345 [.agg (ecv p k o nk nm nt nd)] [] λr h=>r=.c (.p (.b (zKq ⟨p,k,o,⟨nk,nm,nt,nd⟩⟩)))/\h=[]:=by
 have hip:=fR hp;have hz:=zM4 (k:=nk) (m:=nm) (t:=nt) (d:=nd);have hn:=dZ (k:=nk) (m:=nm) (d:=nd) ht;unfold zKq;simp only;generalize cI p=ip at *;generalize uR ⟨nk,nm,nt,nd⟩=z at *;generalize aP ⟨nk,nm,nt,nd⟩=rn at *;cases ip<;>cases z<;>cases rn<;>cases o
 all_goals
  refine eT func345 λX0 hX=>?_;simp only[f345,go_sem]
 all_goals repeat' (first|exact⟨⟩|refine sq ?_|refine uF (hip) ?_|refine uF (hz) ?_|refine uF (hn) ?_|refine aK (λ_=>?_) (λ_=>?_)|refine bM (λ_=>?_) (λ_=>?_))
 all_goals simp_all
theorem NP{l:List En}(h:OkE l):aA prog 284 [.c (.p (.sl 7 (gD l)))] [] λr h=>r=.c (.p (.b true))/\h=[]:=by
 have hll:=h.len;refine eT func284 λX0 hX=>?_;simp only[f284,go_sem]
 repeat' (first|exact⟨⟩|refine sp ?_)
 refine aY aD aL (α:=Nat) (λk=>⟨51,[(0,.c (.p (.sl 7 (gD l)))),(7,.c (.p (.sl 7 (gD l)))),(8,.c (.p (.i .i64 l.length))),(9,.c (.p (.i .i64 k)))],[]⟩)
  (λk=>k<=l.length) (λk=>l.length-k) 0 (Nat.zero_le _) (.inl (aF (by rw[hX];rfl) rfl rfl wkS)) ?_
 intro k hk;by_cases hlt:k<l.length
 .have hx:l[k]?=some l[k]:=List.getElem?_eq_getElem hlt;have hg:=rH hx;have h1:decide ((k:Int)<(l.length:Int))=true:=decide_eq_true (by omega);have w1:IntKind.i64.wrap ((k:Int)+1)=k+1:=wrap_i64 (by omega) (by omega);have hk0:(0:Int)<=k:=by omega
  have hkl:(k:Int)<=l.length:=by omega
  have prev:k=0∨∃m:Nat,∃y:En,decide ((0:Int)<k)=true/\IntKind.i64.wrap ((k:Int)-1)=(m:Int)/\m<l.length/\l[m]?=some y/\(bT l[k].p y.p || l[k].p==y.p)=false:=by
   by_cases h0:0<k
   .have hmk:k-1<l.length:=by omega
    have h3:=List.pairwise_iff_getElem.1 h.srt (k-1) k hmk hlt (by omega);refine .inr ⟨k-1,l[k-1],decide_eq_true (by omega),?_,hmk,List.getElem?_eq_getElem hmk,?_⟩
    .rw[wrap_i64 (by omega) (by omega)];omega
    .rw[gB h3];cases he:(l[k].p==l[k-1].p)
     .rfl
     .rw[eq_of_beq he,bX] at h3;cases h3
   .exact .inl (by omega)
  have hmx:=h.may _ (List.getElem_mem hlt);have p1:=h.plen _ (List.getElem_mem hlt);have p2:=h.tlen _ (List.getElem_mem hlt);have hop:∀j y,l[j]?=some y->j<k->(jN y && aJ y.p l[k].p)=false:=λj y hy hj=>by
   obtain⟨hj2,rfl⟩:=List.getElem?_eq_some_iff.1 hy;exact List.pairwise_iff_getElem.1 h.open_ j k hj2 hlt hj
  have hpl:=h.plen;generalize l[k]=x at hx hg prev hmx p1 p2 hop;have hc:=zOa (p:=x.p) (k:=x.k) (o:=x.o) (nk:=x.n.k) (nm:=x.n.m) (nt:=x.n.t) (nd:=x.n.d) (by omega) p2;rw[show (⟨x.p,x.k,x.o,⟨x.n.k,x.n.m,x.n.t,x.n.d⟩⟩:En)=x from rfl,hmx] at hc
  have htk:(l.take k).length=k:=by rw[List.length_take];omega
  clear hmx h hx;rcases prev with h0|⟨m,y,b1,b2,b3,b4,b5⟩
  .have b1:decide ((0:Int)<(k:Int))=false:=decide_eq_false (by omega);clear h0
   repeat' (first|exact⟨⟩|refine sp ?_|((refine aG (id:=4) aD aL [] [0,1,2,3,4,5,6,7,8,9,10,11,12,13,14,15,16,17] (by decide +kernel) ?_);(repeat' (first|(refine aO ?_)|((refine bK ?_ rfl rfl ?_ ?_);(rotate_left 1);(focus ((repeat' (first|exact⟨⟩|refine sq ?_|refine uF (hc) ?_));exact rfl));(simp only[aC])))))|refine ai ?_)
   refine tN (α:=Nat) (λj=>⟨51,[(0,.c (.p (.sl 7 (gD l)))),(7,.c (.p (.sl 7 (gD l)))),(8,.c (.p (.i .i64 l.length))),(9,.c (.p (.i .i64 k))),(4,.c (.ptr 0 0)),(34,.c (.p (.sl 7 (gD (l.take k))))),(35,.c (.p (.i .i64 k))),(36,.c (.p (.i .i64 j)))],[.box (ecv x.p x.k x.o x.n.k x.n.m x.n.t x.n.d)]⟩)
    (λj=>j<=k) (λj=>k-j) 0 (Nat.zero_le _) (.inl (aF (by rw[hX];rfl) rfl rfl wkS)) ?_
   intro j hj;by_cases hjk:j<k
   .have hjl:j<l.length:=by omega
    have hz:(l.take k)[j]?=some l[j]:=by rw[List.getElem?_take,if_pos hjk];exact List.getElem?_eq_getElem hjl
    have hgz:=rH hz;have hoz:=hop j l[j] (List.getElem?_eq_getElem hjl) hjk;have hzp:=hpl _ (List.getElem_mem hjl);have h2:decide ((j:Int)<(k:Int))=true:=decide_eq_true (by omega);have w2:IntKind.i64.wrap ((j:Int)+1)=j+1:=wrap_i64 (by omega) (by omega);have hjk2:(j:Int)<(k:Int):=by omega
    have hjm:(j:Int)<(min k l.length:Nat):=by omega
    have hj0:(0:Int)<=j:=by omega
    generalize l[j]=z at hz hgz hoz hzp;have hsh:=WZ (p:=z.p) (k:=z.k) (o:=z.o) (nk:=z.n.k) (nm:=z.n.m) (nt:=z.n.t) (nd:=z.n.d);rw[show (⟨z.p,z.k,z.o,⟨z.n.k,z.n.m,z.n.t,z.n.d⟩⟩:En)=z from rfl] at hsh
    clear hop hpl hz;refine jF aD aL ?_;cases hsz:jN z
    .rw[hsz] at hsh
     repeat' (first|exact⟨⟩|refine sp ?_|refine uF (hsh) ?_)
     exact gZ (j+1) (by omega) (by omega) (aF rfl rfl rfl wkS)
    .rw[hsz] at hsh hoz;rw[Bool.true_and] at hoz
     repeat' (first|exact⟨⟩|refine sp ?_|refine uF (hsh) ?_|refine uF (cU (p:=z.p) (by omega)) ?_)
     exact gZ (j+1) (by omega) (by omega) (aF rfl rfl rfl wkS)
   .have h2:decide ((j:Int)<(k:Int))=false:=decide_eq_false (by omega);clear hop hpl;refine jF aD aL ?_
    repeat' (first|exact⟨⟩|refine sp ?_)
    exact gZ (k+1) (by omega) (by omega) (aF rfl rfl rfl wkS)
  .have hgy:=rH b4;have b6:(m:Int)<l.length:=by omega
   repeat' (first|exact⟨⟩|refine sp ?_|((refine aG (id:=4) aD aL [] [0,1,2,3,4,5,6,7,8,9,10,11,12,13,14,15,16,17] (by decide +kernel) ?_);(repeat' (first|(refine aO ?_)|((refine bK ?_ rfl rfl ?_ ?_);(rotate_left 1);(focus ((repeat' (first|exact⟨⟩|refine sq ?_|refine uF (hc) ?_|refine ai ?_));exact rfl));(simp only[aC])))))|refine ai ?_)
   refine tN (α:=Nat) (λj=>⟨51,[(0,.c (.p (.sl 7 (gD l)))),(7,.c (.p (.sl 7 (gD l)))),(8,.c (.p (.i .i64 l.length))),(9,.c (.p (.i .i64 k))),(4,.c (.ptr 0 0)),(34,.c (.p (.sl 7 (gD (l.take k))))),(35,.c (.p (.i .i64 k))),(36,.c (.p (.i .i64 j)))],[.box (ecv x.p x.k x.o x.n.k x.n.m x.n.t x.n.d)]⟩)
    (λj=>j<=k) (λj=>k-j) 0 (Nat.zero_le _) (.inl (aF (by rw[hX];rfl) rfl rfl wkS)) ?_
   intro j hj;by_cases hjk:j<k
   .have hjl:j<l.length:=by omega
    have hz:(l.take k)[j]?=some l[j]:=by rw[List.getElem?_take,if_pos hjk];exact List.getElem?_eq_getElem hjl
    have hgz:=rH hz;have hoz:=hop j l[j] (List.getElem?_eq_getElem hjl) hjk;have hzp:=hpl _ (List.getElem_mem hjl);have h2:decide ((j:Int)<(k:Int))=true:=decide_eq_true (by omega);have w2:IntKind.i64.wrap ((j:Int)+1)=j+1:=wrap_i64 (by omega) (by omega);have hjk2:(j:Int)<(k:Int):=by omega
    have hjm:(j:Int)<(min k l.length:Nat):=by omega
    have hj0:(0:Int)<=j:=by omega
    generalize l[j]=z at hz hgz hoz hzp;have hsh:=WZ (p:=z.p) (k:=z.k) (o:=z.o) (nk:=z.n.k) (nm:=z.n.m) (nt:=z.n.t) (nd:=z.n.d);rw[show (⟨z.p,z.k,z.o,⟨z.n.k,z.n.m,z.n.t,z.n.d⟩⟩:En)=z from rfl] at hsh
    clear hop hpl hz;refine jF aD aL ?_;cases hsz:jN z
    .rw[hsz] at hsh
     repeat' (first|exact⟨⟩|refine sp ?_|refine uF (hsh) ?_)
     exact gZ (j+1) (by omega) (by omega) (aF rfl rfl rfl wkS)
    .rw[hsz] at hsh hoz;rw[Bool.true_and] at hoz
     repeat' (first|exact⟨⟩|refine sp ?_|refine uF (hsh) ?_|refine uF (cU (p:=z.p) (by omega)) ?_)
     exact gZ (j+1) (by omega) (by omega) (aF rfl rfl rfl wkS)
   .have h2:decide ((j:Int)<(k:Int))=false:=decide_eq_false (by omega);clear hop hpl;refine jF aD aL ?_
    repeat' (first|exact⟨⟩|refine sp ?_)
    exact gZ (k+1) (by omega) (by omega) (aF rfl rfl rfl wkS)
 .have h1:decide ((k:Int)<(l.length:Int))=false:=decide_eq_false (by omega)
  repeat' (first|exact⟨⟩|refine sp ?_)
end Go.Proofs.YtlbfnbldeefgmaaGreatDoor
end
section
namespace Go.Proofs.YtlbfnbldeefgmaaGreatDoor
open Go Go.Dm Go.Proofs.Tryz
theorem zEH(x y:List UInt8):(bT x y || x==y) = !bT y x:=by
 cases h:bT y x
 .cases h2:bT x y
  .rw[eL h2 h];simp
  .rfl
 .rw[gB h,Bool.false_or];cases he:(x==y)
  .rfl
  .rw[eq_of_beq he,bX] at h;cases h
theorem wX{t:List It}(hl:t.length<=1000000)(hp:∀x∈t,x.p.length<=1000000000)(ht:∀x∈t,x.n.t<18446744073709551616):
  aA prog 158 [.c (.p (.sl 5 (aQ t)))] [] λr h=>r=.c (.p (.b (kY t)))/\h=[]:=by
 refine eT func158 λX0 hX=>?_;simp only[f158,go_sem]
 repeat' (first|exact⟨⟩|refine sp ?_)
 refine aY aD aL (α:=Nat) (λk=>⟨56,[(0,.c (.p (.sl 5 (aQ t)))),(5,.c (.p (.sl 5 (aQ t)))),(6,.c (.p (.i .i64 t.length))),(7,.c (.p (.i .i64 k)))],[]⟩)
  (λk=>k<=t.length/\Srt (t.take k)/\fH (t.take k) (t.drop k)=fH [] t) (λk=>t.length-k) 0 ⟨Nat.zero_le _,by simp,rfl⟩ (.inl (aF (by rw[hX];rfl) rfl rfl wkS)) ?_
 rintro k ⟨hk,hst,hgo⟩;by_cases hlt:k<t.length
 .have hx:t[k]?=some t[k]:=List.getElem?_eq_getElem hlt;have hg:=cZ hx;have h1:decide ((k:Int)<(t.length:Int))=true:=decide_eq_true (by omega);have hki:(k:Int)<=(t.length:Int):=by omega
  have hk0:(0:Int)<=k:=by omega
  have w1:IntKind.i64.wrap ((k:Int)+1)=k+1:=wrap_i64 (by omega) (by omega);have prev:(decide ((0:Int)<k)=false/\qV (t.take k) t[k].p=true)∨∃m:Nat,∃y:It,decide ((0:Int)<k)=true/\IntKind.i64.wrap ((k:Int)-1)=(m:Int)/\(m:Int)<t.length/\t[m]?=some y/\(bT t[k].p y.p || t[k].p==y.p) = !qV (t.take k) t[k].p:=by
   by_cases h0:0<k
   .have hmk:k-1<t.length:=by omega
    refine .inr ⟨k-1,t[k-1],decide_eq_true (by omega),?_,by omega,List.getElem?_eq_getElem hmk,?_⟩
    .rw[wrap_i64 (by omega) (by omega)];omega
    .rw[zEH];unfold qV;rw[getLast_take h0 (by omega),List.getElem?_eq_getElem hmk]
   .refine .inl ⟨decide_eq_false (by omega),?_⟩;have:k=0:=by omega
    subst this;rfl
  have hpl:=hp _ (List.getElem_mem hlt);have i4:=ht _ (List.getElem_mem hlt);have hisd:=eQ (t:=t.take k) (p:=aM t[k].p) (by rw[List.length_take];omega) hst;have htk:(aQ t).take k=aQ (t.take k):=zT t k;have hdr:t.drop k=t[k]::t.drop (k+1):=List.drop_eq_getElem_cons hlt;have hnx:t.take (k+1)=t.take k++[t[k]]:=by rw[List.take_add_one,hx];rfl
  rw [hdr,fH] at hgo;have hsn:qV (t.take k) t[k].p=true->Srt (t.take k++[t[k]]):=λh=>ZO hst h;rw[<- hnx] at hgo hsn;have hbad:mU (t.take k) t[k]=false->kY t=false:=λh=>by
   rw[h,Bool.false_and] at hgo;rw[kY,<- hgo];rfl
  have hgood:mU (t.take k) t[k]=true->fH (t.take (k+1)) (t.drop (k+1))=fH [] t:=λh=>by
   rw[h,Bool.true_and] at hgo;exact hgo
  clear hgo hdr hnx;unfold mU at hbad hgood;generalize t[k]=x at hx hg prev hpl i4 hisd hsn hbad hgood;generalize qV (t.take k) x.p=a3 at prev hsn hbad hgood;generalize aX (t.take k) (aM x.p)=a5 at hisd hbad hgood;cases c1:(x.p == [])
  .cases c2:cI x.p
   .have hf:=hbad (by rw[c1,c2];rfl);rw[hf];clear hf hbad hgood hsn hst hisd prev hp ht hx
    repeat' (first|exact⟨⟩|refine sp ?_|((refine aG (id:=4) aD aL [] [0,1,2,3,4,5,6,7,8,9,10,11,12,13,14,15,16,17,18,19,20,21,22,23,24,25,26,27,28,29,30,31,32,33,34,35,36,37,38,39] (by decide +kernel) ?_);(repeat' (first|(refine aO ?_)|((refine bK ?_ rfl rfl ?_ ?_);(rotate_left 1);(focus ((repeat' (first|exact⟨⟩|refine sq ?_|refine uF (fR (by omega)) ?_));exact rfl));(simp only[aC])))))|refine ai ?_)
   .rcases prev with⟨b1,rfl⟩|⟨m,y,b1,b2,b3,b4,b5⟩
    .cases c4:aP x.n
     .have hf:=hbad (by rw[c1,c2,c4];rfl);rw[hf];clear hf hbad hgood hsn hst hisd hp ht hx
      repeat' (first|exact⟨⟩|refine sp ?_|((refine aG (id:=4) aD aL [] [0,1,2,3,4,5,6,7,8,9,10,11,12,13,14,15,16,17,18,19,20,21,22,23,24,25,26,27,28,29,30,31,32,33,34,35,36,37,38,39] (by decide +kernel) ?_);(repeat' (first|(refine aO ?_)|((refine bK ?_ rfl rfl ?_ ?_);(rotate_left 1);(focus ((repeat' (first|exact⟨⟩|refine sq ?_|refine uF (fR (by omega)) ?_|refine uF (dZ i4) ?_));exact rfl));(simp only[aC])))))|refine ai ?_)
     .cases a5
      .have hf:=hbad (by rw[c1,c2,c4];rfl);rw[hf];clear hf hbad hgood hsn hst hp ht hx
       repeat' (first|exact⟨⟩|refine sp ?_|((refine aG (id:=4) aD aL [] [0,1,2,3,4,5,6,7,8,9,10,11,12,13,14,15,16,17,18,19,20,21,22,23,24,25,26,27,28,29,30,31,32,33,34,35,36,37,38,39] (by decide +kernel) ?_);(repeat' (first|(refine aO ?_)|((refine bK ?_ rfl rfl ?_ ?_);(rotate_left 1);(focus ((repeat' (first|exact⟨⟩|refine sq ?_|refine uF (fR (by omega)) ?_|refine uF (dZ i4) ?_|refine uF (dV (by omega)) ?_|refine uF (hisd) ?_));exact rfl));(simp only[aC])))))|refine ai ?_)
      .have hJ:k+1<=t.length/\Srt (t.take (k+1))/\fH (t.take (k+1)) (t.drop (k+1))=fH [] t:=⟨by omega,hsn rfl,hgood (by rw[c1,c2,c4];rfl)⟩
       clear hbad hgood hsn hst hp ht hx
       repeat' (first|exact⟨⟩|refine sp ?_|((refine aG (id:=4) aD aL [] [0,1,2,3,4,5,6,7,8,9,10,11,12,13,14,15,16,17,18,19,20,21,22,23,24,25,26,27,28,29,30,31,32,33,34,35,36,37,38,39] (by decide +kernel) ?_);(repeat' (first|(refine aO ?_)|((refine bK ?_ rfl rfl ?_ ?_);(rotate_left 1);(focus ((repeat' (first|exact⟨⟩|refine sq ?_|refine uF (fR (by omega)) ?_|refine uF (dZ i4) ?_|refine uF (dV (by omega)) ?_|refine uF (hisd) ?_));exact rfl));(simp only[aC])))))|refine ai ?_)
       exact gZ (k+1) hJ (by omega) (aF rfl rfl rfl wkS)
    .have hgy:=cZ b4;cases a3
     .have hf:=hbad (by rw[c1,c2];rfl);rw[hf];rw[Bool.not_false] at b5;clear hf hbad hgood hsn hst hisd hp ht hx b4
      repeat' (first|exact⟨⟩|refine sp ?_|((refine aG (id:=4) aD aL [] [0,1,2,3,4,5,6,7,8,9,10,11,12,13,14,15,16,17,18,19,20,21,22,23,24,25,26,27,28,29,30,31,32,33,34,35,36,37,38,39] (by decide +kernel) ?_);(repeat' (first|(refine aO ?_)|((refine bK ?_ rfl rfl ?_ ?_);(rotate_left 1);(focus ((repeat' (first|exact⟨⟩|refine sq ?_|refine uF (fR (by omega)) ?_|refine ai ?_));exact rfl));(simp only[aC])))))|refine ai ?_)
     .rw [Bool.not_true] at b5;cases c4:aP x.n
      .have hf:=hbad (by rw[c1,c2,c4];rfl);rw[hf];clear hf hbad hgood hsn hst hisd hp ht hx b4
       repeat' (first|exact⟨⟩|refine sp ?_|((refine aG (id:=4) aD aL [] [0,1,2,3,4,5,6,7,8,9,10,11,12,13,14,15,16,17,18,19,20,21,22,23,24,25,26,27,28,29,30,31,32,33,34,35,36,37,38,39] (by decide +kernel) ?_);(repeat' (first|(refine aO ?_)|((refine bK ?_ rfl rfl ?_ ?_);(rotate_left 1);(focus ((repeat' (first|exact⟨⟩|refine sq ?_|refine uF (fR (by omega)) ?_|refine uF (dZ i4) ?_|refine ai ?_));exact rfl));(simp only[aC])))))|refine ai ?_)
      .cases a5
       .have hf:=hbad (by rw[c1,c2,c4];rfl);rw[hf];clear hf hbad hgood hsn hst hp ht hx b4
        repeat' (first|exact⟨⟩|refine sp ?_|((refine aG (id:=4) aD aL [] [0,1,2,3,4,5,6,7,8,9,10,11,12,13,14,15,16,17,18,19,20,21,22,23,24,25,26,27,28,29,30,31,32,33,34,35,36,37,38,39] (by decide +kernel) ?_);(repeat' (first|(refine aO ?_)|((refine bK ?_ rfl rfl ?_ ?_);(rotate_left 1);(focus ((repeat' (first|exact⟨⟩|refine sq ?_|refine uF (fR (by omega)) ?_|refine uF (dZ i4) ?_|refine uF (dV (by omega)) ?_|refine uF (hisd) ?_|refine ai ?_));exact rfl));(simp only[aC])))))|refine ai ?_)
       .have hJ:k+1<=t.length/\Srt (t.take (k+1))/\fH (t.take (k+1)) (t.drop (k+1))=fH [] t:=⟨by omega,hsn rfl,hgood (by rw[c1,c2,c4];rfl)⟩
        clear hbad hgood hsn hst hp ht hx b4
        repeat' (first|exact⟨⟩|refine sp ?_|((refine aG (id:=4) aD aL [] [0,1,2,3,4,5,6,7,8,9,10,11,12,13,14,15,16,17,18,19,20,21,22,23,24,25,26,27,28,29,30,31,32,33,34,35,36,37,38,39] (by decide +kernel) ?_);(repeat' (first|(refine aO ?_)|((refine bK ?_ rfl rfl ?_ ?_);(rotate_left 1);(focus ((repeat' (first|exact⟨⟩|refine sq ?_|refine uF (fR (by omega)) ?_|refine uF (dZ i4) ?_|refine uF (dV (by omega)) ?_|refine uF (hisd) ?_|refine ai ?_));exact rfl));(simp only[aC])))))|refine ai ?_)
        exact gZ (k+1) hJ (by omega) (aF rfl rfl rfl wkS)
  .have hf:=hbad (by rw[c1];rfl);rw[hf];clear hf hbad hgood hsn hst hisd prev hp ht hx
   repeat' (first|exact⟨⟩|refine sp ?_|((refine aG (id:=4) aD aL [] [0,1,2,3,4,5,6,7,8,9,10,11,12,13,14,15,16,17,18,19,20,21,22,23,24,25,26,27,28,29,30,31,32,33,34,35,36,37,38,39] (by decide +kernel) ?_);(repeat' (first|(refine aO ?_)|((refine bK ?_ rfl rfl ?_ ?_);(rotate_left 1);(focus ((repeat' (first|exact⟨⟩|refine sp ?_));exact rfl));(simp only[aC])))))|refine ai ?_)
 .have h1:decide ((k:Int)<(t.length:Int))=false:=decide_eq_false (by omega);rw[List.drop_of_length_le (by omega),fH] at hgo;rw[kY,<- hgo,Bool.true_and];clear hgo hst
  repeat' (first|exact⟨⟩|refine sp ?_)
end Go.Proofs.YtlbfnbldeefgmaaGreatDoor
end
