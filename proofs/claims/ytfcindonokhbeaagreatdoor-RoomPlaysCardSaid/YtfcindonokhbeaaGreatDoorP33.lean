/- Part 34 of roomPlays_card. No condition. -/
import Derived.Test.YtfcindonokhbeaaGreatDoorP27
set_option linter.all false
set_option maxRecDepth 100000
set_option maxHeartbeats 0
section
namespace Go.Proofs.YtfcindonokhbeaaGreatDoor
open Go Go.Dm Go.Proofs Go.Proofs.Tryz
def FC(x y:Ba):(cC x y || x==y) = !cC y x:=by
 cases h:cC y x
 .cases a:cC x y
  .rw[fM a h];simp
  .rfl
 .rw[fL h,dw];cases b:(x==y)
  .rfl
  .rw[eq_of_beq b,cD] at h;cases h
def BF{t:Bl}(S:t.length<=1000000)(r:∀x∈t,x.p.length<=1000000000)(s:∀x∈t,x.n.t<18446744073709551616):
  ag 145 [.c (.p (.sl 5 (aP t)))] (.c (.p (.b (lC t)))):=by
 refine aa func145 λT hX=>?_
 repeat' (first|exact⟨⟩|refine sp ?_)
 refine aJ aC aI (α:=Nat) (λk=>⟨56,[(0,.c (.p (.sl 5 (aP t)))),(5,.c (.p (.sl 5 (aP t)))),(6,.c (.p (.i .i64 t.length))),(7,.c (.p (.i .i64 k)))],[]⟩)
  (λk=>k<=t.length/\Srt (t.take k)/\gW (t.take k) (t.drop k)=gW [] t) (λk=>t.length-k) 0 ⟨bc _,ql,rfl⟩ (.inl (aB qj rfl rfl wkS)) ?_
 rintro k ⟨U,g,j⟩;by_cases u:k<t.length
 .have q:=ay u;have J:=bX q;have K:=ah k t.length;have L:(k:Int)<=(t.length:Int):=qd
  have M:(0:Int)<=k:=qd
  have V:=ar k;have o:(decide ((0:Int)<k)=false/\kW (t.take k) t[k].p=true)∨∃m:Nat,∃y:It,decide ((0:Int)<k)=true/\IntKind.i64.wrap ((k:Int)-1)=(m:Int)/\(m:Int)<t.length/\t[m]?=some y/\(cC t[k].p y.p || t[k].p==y.p) = !kW (t.take k) t[k].p:=by
   by_cases N:0<k
   .have B:k-1<t.length:=qd
    refine .inr ⟨k-1,t[k-1],df qd,?_,qd,ay B,?_⟩
    .rw[wrap_i64 qd qd];omega
    .rw[FC];unfold kW;rw[nW N qd,ay B]
   .refine .inl ⟨er qd,?_⟩;have:k=0:=qd
    subst this;rfl
  have F:=r _ (ch u);have z:=s _ (ch u);have e:=fZ (t:=t.take k) (p:=aU t[k].p) ri g;have O:(aP t).take k=aP (t.take k):=EI t k;have C:t.drop k=t[k]::t.drop (k+1):=ib u;have D:t.take (k+1)=t.take k++[t[k]]:=by rw[dm,q];rfl
  rw [C,gW] at j;have f:kW (t.take k) t[k].p=true->Srt (t.take k++[t[k]]):=λh=>RS g h;rw[<- D] at j f;have d:pH (t.take k) t[k]=false->lC t=false:=λh=>by
   rw[h,dp] at j;rw[lC,<- j];rfl
  have a:pH (t.take k) t[k]=true->gW (t.take (k+1)) (t.drop (k+1))=gW [] t:=λh=>by
   rw[h,cy] at j;exact j
  clear j C D;unfold pH at d a;generalize t[k]=x at q J o F z e f d a;generalize kW (t.take k) x.p=P at o f d a;generalize aZ (t.take k) (aU x.p)=H at e d a;cases v:(x.p == [])
  .cases w:bZ x.p
   .have l:=d (by rw[v,w];rfl);rw[l];clear l d a f g e o r s q
    repeat' (first|exact⟨⟩|refine sq ?_|refine ai ?_|refine uF (iA qd) ?_|refine dG (id:=4) aC aI [] [0,1,2,3,4,5,6,7,8,9,10,11,12,13,14,15,16,17,18,19,20,21,22,23,24,25,26,27,28,29,30,31,32,33,34,35,36,37,38,39] ?_|refine aM ?_|refine d1 ?_ ?_ ?_|with_reducible exact rfl)
   .rcases o with⟨Q,rfl⟩|⟨m,y,Q,W,X,E,I⟩
    .cases A:aO x.n
     .have l:=d (by rw[v,w,A];rfl);rw[l];clear l d a f g e r s q
      repeat' (first|exact⟨⟩|refine sq ?_|refine ai ?_|refine uF (iA qd) ?_|refine uF (fD z) ?_|refine dG (id:=4) aC aI [] [0,1,2,3,4,5,6,7,8,9,10,11,12,13,14,15,16,17,18,19,20,21,22,23,24,25,26,27,28,29,30,31,32,33,34,35,36,37,38,39] ?_|refine aM ?_|refine d1 ?_ ?_ ?_|with_reducible exact rfl)
     .cases H
      .have l:=d (by rw[v,w,A];rfl);rw[l];clear l d a f g r s q
       repeat' (first|exact⟨⟩|refine sq ?_|refine ai ?_|refine uF (iA qd) ?_|refine uF (fD z) ?_|refine uF (eY qd) ?_|refine uF e ?_|refine dG (id:=4) aC aI [] [0,1,2,3,4,5,6,7,8,9,10,11,12,13,14,15,16,17,18,19,20,21,22,23,24,25,26,27,28,29,30,31,32,33,34,35,36,37,38,39] ?_|refine aM ?_|refine d1 ?_ ?_ ?_|with_reducible exact rfl)
      .have G:k+1<=t.length/\Srt (t.take (k+1))/\gW (t.take (k+1)) (t.drop (k+1))=gW [] t:=⟨qd,f rfl,a (by rw[v,w,A];rfl)⟩
       clear d a f g r s q
       repeat' (first|exact⟨⟩|refine sq ?_|refine ai ?_|refine uF (iA qd) ?_|refine uF (fD z) ?_|refine uF (eY qd) ?_|refine uF e ?_|refine dG (id:=4) aC aI [] [0,1,2,3,4,5,6,7,8,9,10,11,12,13,14,15,16,17,18,19,20,21,22,23,24,25,26,27,28,29,30,31,32,33,34,35,36,37,38,39] ?_|refine aM ?_|refine d1 ?_ ?_ ?_|with_reducible exact rfl)
       exact cW (k+1) G qd (aB rfl rfl rfl wkS)
    .have R:=bX E;cases P
     .have l:=d (by rw[v,w];rfl);rw[l];rw[br] at I;clear l d a f g e r s q E
      repeat' (first|exact⟨⟩|refine sq ?_|refine ai ?_|refine uF (iA qd) ?_|refine dG (id:=4) aC aI [] [0,1,2,3,4,5,6,7,8,9,10,11,12,13,14,15,16,17,18,19,20,21,22,23,24,25,26,27,28,29,30,31,32,33,34,35,36,37,38,39] ?_|refine aM ?_|refine d1 ?_ ?_ ?_|with_reducible exact rfl)
     .rw [bh] at I;cases A:aO x.n
      .have l:=d (by rw[v,w,A];rfl);rw[l];clear l d a f g e r s q E
       repeat' (first|exact⟨⟩|refine sq ?_|refine ai ?_|refine uF (iA qd) ?_|refine uF (fD z) ?_|refine dG (id:=4) aC aI [] [0,1,2,3,4,5,6,7,8,9,10,11,12,13,14,15,16,17,18,19,20,21,22,23,24,25,26,27,28,29,30,31,32,33,34,35,36,37,38,39] ?_|refine aM ?_|refine d1 ?_ ?_ ?_|with_reducible exact rfl)
      .cases H
       .have l:=d (by rw[v,w,A];rfl);rw[l];clear l d a f g r s q E
        repeat' (first|exact⟨⟩|refine sq ?_|refine ai ?_|refine uF (iA qd) ?_|refine uF (fD z) ?_|refine uF (eY qd) ?_|refine uF e ?_|refine dG (id:=4) aC aI [] [0,1,2,3,4,5,6,7,8,9,10,11,12,13,14,15,16,17,18,19,20,21,22,23,24,25,26,27,28,29,30,31,32,33,34,35,36,37,38,39] ?_|refine aM ?_|refine d1 ?_ ?_ ?_|with_reducible exact rfl)
       .have G:k+1<=t.length/\Srt (t.take (k+1))/\gW (t.take (k+1)) (t.drop (k+1))=gW [] t:=⟨qd,f rfl,a (by rw[v,w,A];rfl)⟩
        clear d a f g r s q E
        repeat' (first|exact⟨⟩|refine sq ?_|refine ai ?_|refine uF (iA qd) ?_|refine uF (fD z) ?_|refine uF (eY qd) ?_|refine uF e ?_|refine dG (id:=4) aC aI [] [0,1,2,3,4,5,6,7,8,9,10,11,12,13,14,15,16,17,18,19,20,21,22,23,24,25,26,27,28,29,30,31,32,33,34,35,36,37,38,39] ?_|refine aM ?_|refine d1 ?_ ?_ ?_|with_reducible exact rfl)
        exact cW (k+1) G qd (aB rfl rfl rfl wkS)
  .have l:=d (by rw[v];rfl);rw[l];clear l d a f g e o r s q
   repeat' (first|exact⟨⟩|refine sp ?_|refine dR (id:=4) aC aI [] [0,1,2,3,4,5,6,7,8,9,10,11,12,13,14,15,16,17,18,19,20,21,22,23,24,25,26,27,28,29,30,31,32,33,34,35,36,37,38,39] ?_|refine ai ?_)
 .have K:=aj k t.length;rw[cw qd,gW] at j;rw[lC,<- j,cy];clear j g
  repeat' (first|exact⟨⟩|refine sp ?_)
def zEo{t:Bl}(S:t.length<=1000000)(q:∀x∈t,x.p.length<=1000000000)(r:∀x∈t,x.n.d.length<=1000000000):
  ag 123 [.c (.p (.sl 5 (aP t)))] (.c (.p (.b (zEp t)))):=by
 refine aa func123 λT hX=>?_
 repeat' (first|exact⟨⟩|refine sp ?_)
 refine aJ aC aI (α:=Nat) (λk=>⟨56,[(0,.c (.p (.sl 5 (aP t)))),(3,.c (.p (.i .i64 k)))],[]⟩)
  (λk=>k<=t.length/\uQ t (t.take k) (t.drop k)=uQ t [] t) (λk=>t.length-k) 0 ⟨bc _,rfl⟩ (.inl (aB qj rfl rfl wkS)) ?_
 rintro k ⟨U,g⟩;by_cases s:k<t.length
 .have o:=ay s;have H:=bX o;have I:=ah k t.length;have J:(k:Int)<=(t.length:Int):=qd
  have K:(k:Int)<(t.length:Int):=qd
  have L:(0:Int)<=k:=qd
  have V:=ar k;have l:(decide ((0:Int)<k)=false/\kW (t.take k) t[k].p=true)∨∃m:Nat,∃y:It,decide ((0:Int)<k)=true/\IntKind.i64.wrap ((k:Int)-1)=(m:Int)/\(m:Int)<t.length/\t[m]?=some y/\(cC t[k].p y.p || t[k].p==y.p) = !kW (t.take k) t[k].p:=by
   by_cases M:0<k
   .have z:k-1<t.length:=qd
    refine .inr ⟨k-1,t[k-1],df qd,?_,qd,ay z,?_⟩
    .rw[wrap_i64 qd qd];omega
    .rw[FC];unfold kW;rw[nW M qd,ay z]
   .refine .inl ⟨er qd,?_⟩;have:k=0:=qd
    subst this;rfl
  have D:=q _ (ch s);have N:=r _ (ch s);have f:=eA (t:=t) (p:=aU t[k].p) qd;have A:t.drop k=t[k]::t.drop (k+1):=ib s;have B:t.take (k+1)=t.take k++[t[k]]:=by rw[dm,o];rfl
  rw [A,uQ] at g;rw[<- B] at g;have e:zP t (t.take k) t[k]=false->zEp t=false:=λh=>by
   rw[h,dp] at g;rw[zEp,<- g];rfl
  have a:zP t (t.take k) t[k]=true->uQ t (t.take (k+1)) (t.drop (k+1))=uQ t [] t:=λh=>by
   rw[h,cy] at g;exact g
  clear g A B;unfold zP at e a;generalize t[k]=x at o H l D N f e a;generalize kW (t.take k) x.p=O at l e a;generalize aZ t (aU x.p)=F at f e a;cases u:(x.p == [])
  .cases v:bZ x.p
   .have j:=e (by rw[u,v];rfl);rw[j];clear j e a f l q r o
    repeat' (first|exact⟨⟩|refine sq ?_|refine uF (gC qd) ?_)
   .rcases l with⟨P,rfl⟩|⟨m,y,P,W,X,C,G⟩
    .cases w:aO x.n
     .have j:=e (by rw[u,v,w];rfl);rw[j];clear j e a f q r o
      repeat' (first|exact⟨⟩|refine sq ?_|refine uF (gC qd) ?_|refine uF (fA qd) ?_)
     .cases F
      .have j:=e (by rw[u,v,w];rfl);rw[j];clear j e a q r o
       repeat' (first|exact⟨⟩|refine sq ?_|refine uF (gC qd) ?_|refine uF (fA qd) ?_|refine uF (iM qd) ?_|refine uF f ?_)
      .have E:k+1<=t.length/\uQ t (t.take (k+1)) (t.drop (k+1))=uQ t [] t:=⟨qd,a (by rw[u,v,w];rfl)⟩
       clear e a q r o
       repeat' (first|exact⟨⟩|refine sq ?_|refine uF (gC qd) ?_|refine uF (fA qd) ?_|refine uF (iM qd) ?_|refine uF f ?_)
       exact cW (k+1) E qd (aB rfl rfl rfl wkS)
    .have Q:=bX C;have R:(0:Int)<=(m:Int):=qd
     cases O
     .have j:=e (by rw[u,v];rfl);rw[j];rw[br] at G;clear j e a f q r o C
      repeat' (first|exact⟨⟩|refine sq ?_|refine uF (gC qd) ?_)
     .rw [bh] at G;cases w:aO x.n
      .have j:=e (by rw[u,v,w];rfl);rw[j];clear j e a f q r o C
       repeat' (first|exact⟨⟩|refine sq ?_|refine uF (gC qd) ?_|refine uF (fA qd) ?_)
      .cases F
       .have j:=e (by rw[u,v,w];rfl);rw[j];clear j e a q r o C
        repeat' (first|exact⟨⟩|refine sq ?_|refine uF (gC qd) ?_|refine uF (fA qd) ?_|refine uF (iM qd) ?_|refine uF f ?_)
       .have E:k+1<=t.length/\uQ t (t.take (k+1)) (t.drop (k+1))=uQ t [] t:=⟨qd,a (by rw[u,v,w];rfl)⟩
        clear e a q r o C
        repeat' (first|exact⟨⟩|refine sq ?_|refine uF (gC qd) ?_|refine uF (fA qd) ?_|refine uF (iM qd) ?_|refine uF f ?_)
        exact cW (k+1) E qd (aB rfl rfl rfl wkS)
  .have j:=e (by rw[u];rfl);rw[j];clear j e a f l q r o
   repeat' (first|exact⟨⟩|refine sp ?_)
 .have I:=aj k t.length;rw[cw qd,uQ] at g;rw[zEp,<- g,cy];clear g
  repeat' (first|exact⟨⟩|refine sp ?_)
end Go.Proofs.YtfcindonokhbeaaGreatDoor
end
