/- Part 12 of the proof of roomStays_card, set without needless blanks. No condition. -/
import Derived.Test.YtlbfnbldeefgmaaGreatDoorT10
import Derived.Test.YtlbfnbldeefgmaaGreatDoorT07
import Derived.Test.YtlbfnbldeefgmaaGreatDoorRows
set_option linter.all false
set_option maxRecDepth 100000
set_option maxHeartbeats 16000000
section
namespace Go.Dm
open Go
def fX(s:List UInt8):List (List UInt8) × Int :=
 if decide ((120:Int)<s.length) then ([],12) else if !(s.all λb=>!((b.toNat:Int)==0)) then ([],1)
 else if (KT s).all λx=>!decide ((24:Int)<x.length) then ((KT s).filter λx=>!(x == []),0) else ([],12)
def KM(d:List UInt8):Bool:=match d with
 | b::_=>(b.toNat:Int)==47
 | []=>false
def oA(t:List It)(fo:Bool):Nat->List UInt8->List (List UInt8)->Nat->List UInt8 × Bool × Int
 | 0,_,_,_=>([],false,11)
 | _+1,c,[],_=>(c,true,0)
 | f+1,c,p::ps,h =>
  if p == [46] then oA t fo f c ps h else if p == [46,46] then oA t fo f (aM c) ps h
  else if !aX t c then ([],false,9) else if decide ((120:Int)<(kJ c p).length) then ([],false,12)
  else match aN t (kJ c p) with
  | none=>if ps == [] then (kJ c p,false,0) else ([],false,6)
  | some n=>if n.k==3 && (!(ps == []) || fo) then (if decide (8<=h) then ([],false,11) else if (fX n.d).2==0 then oA t fo f (if KM n.d then [] else c) ((fX n.d).1++ps) (h+1) else ([],false,(fX n.d).2)) else oA t fo f (kJ c p) ps h
def cV(t:List It)(s:List UInt8)(fo:Bool):List UInt8 × Bool × Int :=
 if (fX s).2==0 then oA t fo 1400 [] (fX s).1 0 else ([],false,(fX s).2)
structure Cl where
 k:Int
 p:List UInt8
 to':List UInt8
 m:Int
 t:Nat
 at':Int
 n:Int
 d:List UInt8
structure An where
 e:Int
 n:Nd
 d:List UInt8
 l:List (List UInt8)
def anE(e:Int):An:=⟨e,nd0,[],[]⟩
def gY(k:Int):Bool:=k==3 || k==4 || k==10 || k==11 || k==12 || k==14 || k==15
def mZ(k:Int):Bool:=decide (1<=k) && decide (k<=11) && !(k==8)
def kX(m:Int):Bool:=decide (0<=m) && decide (m<=4095)
def nodeAt(t:List It)(p:List UInt8):Nd:=if p == [] then ⟨2,0,0,[]⟩ else (aN t p).getD nd0
def wrD(had:List UInt8)(f:Nat)(b:List UInt8):List UInt8:=had.take f++b++had.drop (f+b.length)
def XV(is:Bool)(n:Nd):Bool:=is && n.k==2
def zL7(kind:Int)(c:Cl):Nd:=⟨kind,if kind==3 then 511 else c.m,dC c.t,if kind==2 then [] else c.d⟩
def xI(t:List It)(p:List UInt8)(is:Bool)(kind:Int)(c:Cl):List It × Int :=
 if is then ([],7) else if !kX (zL7 kind c).m then ([],1)
 else if kind==3 && (decide ((c.d.length:Int)<1) || decide ((120:Int)<c.d.length) || !(c.d.all λb=>!(b==0))) then ([],1)
 else if kind==1 && decide ((2000:Int)<c.d.length) then ([],16) else wR t p (zL7 kind c)
def vJ(is:Bool)(n:Nd):Int:=if !is then 6 else if XV is n then 8 else 0
def CS(t:List It)(p:List UInt8)(n:Nd)(from':Int)(b:List UInt8):List It × Int :=
 if decide (from'<0) || decide ((n.d.length:Int)<from') then ([],1) else if decide (2000-from'<(b.length:Int)) then ([],16)
 else wR t p ⟨n.k,n.m,n.t,wrD n.d from'.toNat b⟩
def CN(t:List It)(p:List UInt8)(n:Nd)(k:Int):List It × Int :=
 if decide (k<0) || decide ((n.d.length:Int)<k) then ([],1) else wR t p ⟨n.k,n.m,n.t,n.d.take k.toNat⟩
def BR(t:List It)(p:List UInt8)(is:Bool)(n:Nd):List It × Int :=
 if p == [] then ([],1) else if !is then ([],6) else if !XV is n then ([],9) else if decide ((0:Int)<(iI t p).length) then ([],10) else (cA t p,0)
def zKD(t:List It)(p:List UInt8)(is:Bool)(n:Nd)(c:Cl):List It × Int :=
 if !is then ([],6) else if p == [] || c.k==10 && !kX c.m then ([],1)
 else if c.k==10 then wR t p ⟨n.k,c.m,n.t,n.d⟩ else wR t p ⟨n.k,n.m,dC c.t,n.d⟩
def zBc(d:Bool)(t:List It)(q:List UInt8)(is:Bool)(n:Nd):Int :=
 if !is then 0 else if d && !XV is n then 9 else if d && decide ((0:Int)<(iI t q).length) then 10 else if !d && XV is n then 8 else 0
def sC(t:List It)(p:List UInt8)(is:Bool)(n:Nd)(to':List UInt8):List It × Int :=
 if !is then ([],6) else if !((cV t to' false).2.2==0) then ([],(cV t to' false).2.2)
 else if p == [] || (cV t to' false).1 == [] then ([],1) else if p==(cV t to' false).1 then (t,0)
 else if aJ p (cV t to' false).1 then ([],18)
 else if !(zBc (XV is n) t (cV t to' false).1 (cV t to' false).2.1 (nodeAt t (cV t to' false).1)==0) then ([],zBc (XV is n) t (cV t to' false).1 (cV t to' false).2.1 (nodeAt t (cV t to' false).1))
 else pE (cA t (cV t to' false).1) p (cV t to' false).1
def cE(t:List It)(p:List UInt8)(is:Bool)(n:Nd)(c:Cl):List It × Int :=
 if c.k==1 then xI t p is 2 c else if c.k==2 then xI t p is 1 c else if c.k==7 then xI t p is 3 c else if c.k==6 then BR t p is n
 else if c.k==10 || c.k==11 then zKD t p is n c else if c.k==9 then sC t p is n c.to'
 else if !(vJ is n==0) then ([],vJ is n) else if c.k==3 then CS t p n c.at' c.d else if c.k==4 then CN t p n c.n else (cA t p,0)
def BM(is:Bool)(n:Nd)(from' k:Int):An :=
 if !(vJ is n==0) then anE (vJ is n) else if decide (from'<0) || decide (k<0) then anE 1 else ⟨0,nd0,(n.d.drop from'.toNat).take k.toNat,[]⟩
def mJ(t:List It)(p:List UInt8)(is:Bool)(n:Nd)(c:Cl):An :=
 if c.k==14 then BM is n c.at' c.n else if !is then anE 6 else if c.k==8 && !(n.k==3) then anE 1 else if c.k==8 then ⟨0,nd0,n.d,[]⟩
 else if c.k==15 && !XV is n then anE 9 else if c.k==15 then ⟨0,nd0,[],iI t p⟩ else ⟨0,n,[],[]⟩
def doP(t:List It)(c:Cl):List It × An :=
 if decide (c.k<1) || decide (15<c.k) then (t,anE 1) else if !((cV t c.p (gY c.k)).2.2==0) then (t,anE (cV t c.p (gY c.k)).2.2)
 else if !mZ c.k then (t,mJ t (cV t c.p (gY c.k)).1 (cV t c.p (gY c.k)).2.1 (nodeAt t (cV t c.p (gY c.k)).1) c)
 else if (cE t (cV t c.p (gY c.k)).1 (cV t c.p (gY c.k)).2.1 (nodeAt t (cV t c.p (gY c.k)).1) c).2==0 then ((cE t (cV t c.p (gY c.k)).1 (cV t c.p (gY c.k)).2.1 (nodeAt t (cV t c.p (gY c.k)).1) c).1,anE 0)
 else (t,anE (cE t (cV t c.p (gY c.k)).1 (cV t c.p (gY c.k)).2.1 (nodeAt t (cV t c.p (gY c.k)).1) c).2)
def zF(t:List It)(c:Cl)(p:List UInt8)(is:Bool):List It × Int :=
 if is then (t,7)
 else if decide ((if c.k==7 then 511 else c.m)<0) || decide ((4095:Int)<(if c.k==7 then 511 else c.m)) || c.k==7 && !pQ c.d then (t,1)
 else if c.k==2 && decide ((2000:Int)<c.d.length) then (t,16)
 else wR t p ⟨if c.k==2 then 1 else if c.k==7 then 3 else 2,if c.k==7 then 511 else c.m,dC c.t,if c.k==2 || c.k==7 then c.d else []⟩
def WO(t:List It)(p:List UInt8)(dir:Bool)(to':List UInt8):List It × Int :=
 if !((cV t to' false).2.2==0) then (t,(cV t to' false).2.2)
 else if p == [] || (cV t to' false).1 == [] then (t,1) else if p==(cV t to' false).1 then (t,0)
 else if aJ p (cV t to' false).1 then (t,18)
 else if (cV t to' false).2.1 then
  (if dir && !aX t (cV t to' false).1 then (t,9) else if dir && decide ((0:Int)<(iI t (cV t to' false).1).length) then (t,10)
   else if !dir && aX t (cV t to' false).1 then (t,8) else pE (cA t (cV t to' false).1) p (cV t to' false).1)
 else pE t p (cV t to' false).1
def sI(t:List It)(c:Cl)(p:List UInt8)(is:Bool):List It × An :=
 let n:=(aN t p).getD nd0
 let dir:=is && aX t p
 if c.k==1 || c.k==2 || c.k==7 then ((zF t c p is).1,anE (zF t c p is).2)
 else if c.k==6 && p == [] then (t,anE 1) else if !is then (t,anE 6)
 else if c.k==3 then (if dir then (t,anE 8) else if decide (c.at'<0) || decide ((n.d.length:Int)<c.at') then (t,anE 1) else if decide (2000-c.at'<(c.d.length:Int)) then (t,anE 16) else (xL t p ⟨n.k,n.m,n.t,wrD n.d c.at'.toNat c.d⟩,anE 0))
 else if c.k==4 then (if dir then (t,anE 8) else if decide (c.n<0) || decide ((n.d.length:Int)<c.n) then (t,anE 1) else (xL t p ⟨n.k,n.m,n.t,n.d.take c.n.toNat⟩,anE 0))
 else if c.k==5 then (if dir then (t,anE 8) else (cA t p,anE 0))
 else if c.k==6 then (if !dir then (t,anE 9) else if decide ((0:Int)<(iI t p).length) then (t,anE 10) else (cA t p,anE 0))
 else if c.k==8 then (if !(n.k==3) then (t,anE 1) else (t,⟨0,nd0,n.d,[]⟩))
 else if c.k==12 || c.k==13 then (t,⟨0,nodeAt t p,[],[]⟩)
 else if c.k==14 then (if dir then (t,anE 8) else if decide (c.at'<0) || decide (c.n<0) then (t,anE 1) else (t,⟨0,nd0,(n.d.drop c.at'.toNat).take c.n.toNat,[]⟩))
 else if c.k==15 then (if !dir then (t,anE 9) else (t,⟨0,nd0,[],iI t p⟩))
 else if c.k==10 then (if p == [] || decide (c.m<0) || decide (4095<c.m) then (t,anE 1) else (xL t p ⟨n.k,c.m,n.t,n.d⟩,anE 0))
 else if c.k==11 then (if p == [] then (t,anE 1) else (xL t p ⟨n.k,n.m,dC c.t,n.d⟩,anE 0))
 else ((WO t p dir c.to').1,anE (WO t p dir c.to').2)
def doR(t:List It)(c:Cl):List It × An :=
 if decide (c.k<1) || decide (15<c.k) then (t,anE 1) else if !((cV t c.p (gY c.k)).2.2==0) then (t,anE (cV t c.p (gY c.k)).2.2)
 else if (sI t c (cV t c.p (gY c.k)).1 (cV t c.p (gY c.k)).2.1).2.e==0 then sI t c (cV t c.p (gY c.k)).1 (cV t c.p (gY c.k)).2.1
 else (t,anE (sI t c (cV t c.p (gY c.k)).1 (cV t c.p (gY c.k)).2.1).2.e)
section
variable {c p:List UInt8}{t:List It}
theorem zII{x:List UInt8}(h:x≠[]):kJ c x≠[]:=by
 unfold kJ;split
 .exact h
 .simp
theorem zFo{b:List UInt8}(h:Par t)(hb:b≠[]):∀(n:Nat) (q:List UInt8),q.length<=n->(aN t q).isSome=true->aJ b q=true->aX t b=true
 | 0,q,hl,_,hq=>by
  have h1:q=[]:=by simpa using hl
  subst h1;have h2:=eE hq;exact absurd (by simpa using h2) hb
 | n+1,q,hl,hs,hq=>by
  obtain⟨m,hm⟩:=Option.isSome_iff_exists.1 hs;obtain⟨x,hx,rfl,_⟩:=cL hm;have hdx:=h x hx;rcases jU hb hq with h1|h1
  .rw[<- h1];exact hdx
  .have h0:aM x.p≠[]:=by
    intro h0;rw[h0] at h1;have:=eE h1;exact absurd (by simpa using this) hb
   obtain⟨m,h2,_⟩:=cW h0 hdx;have hlt:=sZ h0;exact zFo h hb n _ (by omega) (by rw[h2];rfl) h1
theorem EX(h:OkT t)(hp:p≠[])(hd:aX t p=false):cB t p=t:=by
 unfold cB;refine List.filter_eq_self.2 λx hx=>?_;cases hb:aJ p x.p
 .rfl
 .have:=zFo h.par hp _ x.p (Nat.le_refl _) (by rw[dH h.srt hx];rfl) hb;rw[hd] at this;cases this
theorem oW(hp:p≠[]):aX t p=match aN t p with|some n=>n.k==2|none=>false:=by
 unfold aX;have:(p == [])=false:=by simpa using hp
 rw[this];rfl
theorem zLo(h:aN t p=none):rG t p=t:=by
 unfold rG;refine List.filter_eq_self.2 λx hx=>?_;cases hb:x.p==p
 .rfl
 .exfalso;have:∀{t:List It},x∈t->aN t p≠none:=by
   intro t ht
   induction t with
   | nil=>simp at ht
   | cons y r ih =>
    rw[aN];split
    .simp
    .rcases List.mem_cons.1 ht with rfl|ht
     .rename_i hn;exact absurd hb hn
     .exact ih ht
  exact this hx h
theorem zFO(h:OkT t)(hp:p≠[])(hn:aN t p=none):cA t p=t:=by
 unfold cA;rw[EX h hp (by rw[oW hp,hn]),zLo hn]
def lM(t:List It)(fo:Bool)(r:List UInt8 × Bool × Int):Prop :=
 r.2.2=0->(r.2.1=true->r.1=[]∨∃n,aN t r.1=some n/\(fo=true->(n.k==3)=false))/\(r.2.1=false->r.1≠[]/\aN t r.1=none)
def InT(t:List It)(c:List UInt8):Prop:=c=[]∨∃n,aN t c=some n
theorem RH{s:List UInt8}:∀x∈(fX s).1,x≠[]:=by
 intro x hx;unfold fX at hx;split at hx
 .simp at hx
 .split at hx
  .simp at hx
  .split at hx
   .have:=(List.mem_filter.1 hx).2;intro h;subst h;simp at this
   .simp at hx
theorem MB(h:OkT t)(hc:InT t c):aX t (aM c)=true:=by
 rcases hc with rfl|⟨n,hn⟩
 .rfl
 .obtain⟨x,hx,rfl,_⟩:=cL hn;exact h.par x hx
theorem zKf(h:aX t c=true):c=[]∨∃n,aN t c=some n/\(n.k==3)=false:=by
 by_cases hc:c=[]
 .exact .inl hc
 .obtain⟨m,h1,h2⟩:=cW hc h;exact .inr ⟨m,h1,by rw[h2];rfl⟩
theorem lF(h:OkT t){fo:Bool}:∀(f:Nat) (c:List UInt8) (ps:List (List UInt8)) (hops:Nat),(c=[]∨∃n,aN t c=some n/\(fo=true->(n.k==3)=false))->(∀x∈ps,x≠[])->lM t fo (oA t fo f c ps hops)
 | 0,c,ps,hops,hc,hps=>by intro h0;simp[oA] at h0
 | f+1,c,[],hops,hc,hps=>by
  intro _;simp only[oA];exact⟨λ_=>hc,λh=>by cases h⟩
 | f+1,c,p::ps,hops,hc,hps=>by
  have hpn:=hps p List.mem_cons_self;have hps':∀x∈ps,x≠[]:=λx hx=>hps x (List.mem_cons_of_mem _ hx);have bad:∀e:Int,e≠0->lM t fo ([],false,e):=λe he h0=>absurd h0 he;simp only[oA];split
  .exact lF h f c ps hops hc hps'
  .split
   .refine lF h f _ ps hops ?_ hps';have hd:aX t (aM c)=true:=MB h (hc.imp id λ⟨n,hn,_⟩=>⟨n,hn⟩);exact(zKf hd).imp id λ⟨n,h1,h2⟩=>⟨n,h1,λ_=>h2⟩
   .split
    .exact bad 9 (by decide)
    .split
     .exact bad 12 (by decide)
     .rename_i hdir _;have hdir:aX t c=true:=by simpa using hdir
      split
      .rename_i hg;split
       .refineλ_=>⟨λh=>?_,λ_=>⟨zII hpn,hg⟩⟩;cases h
       .exact bad 6 (by decide)
      .rename_i n hg;split
       .split
        .exact bad 11 (by decide)
        .split
         .refine lF h f _ _ _ ?_ ?_
          .split
           .exact .inl rfl
           .exact(zKf hdir).imp id λ⟨n,h1,h2⟩=>⟨n,h1,λ_=>h2⟩
          .intro x hx;rcases List.mem_append.1 hx with hx|hx
           .exact RH x hx
           .exact hps' x hx
         .rename_i he;exact bad _ (by simpa using he)
       .rename_i hlk;refine lF h f _ ps hops (.inr ⟨n,hg,λhf=>?_⟩) hps';rw[hf,Bool.or_true,Bool.and_true] at hlk;simpa using hlk
theorem CP(h:OkT t)(s:List UInt8)(fo:Bool):lM t fo (cV t s fo):=by
 unfold cV;split
 .exact lF h _ _ _ _ (.inl rfl) RH
 .rename_i he;exactλh0=>absurd h0 (by simpa using he)
end
section
def zPb(d:List UInt8)(hops:Nat):Int:=if decide (8<=hops) then 11 else (fX d).2
def zPa(d:List UInt8)(hops:Nat)(c:List UInt8):List UInt8:=if decide (8<=hops) then c else if (fX d).2==0 then (if KM d then [] else c) else c
def zPc(d:List UInt8)(hops:Nat)(ps:List (List UInt8)):List (List UInt8):=if decide (8<=hops) then ps else if (fX d).2==0 then (fX d).1++ps else ps
def vC(t:List It)(fo:Bool)(c s:List UInt8)(ps:List (List UInt8))(hops:Nat):(Bool × Int) × (List UInt8 × List (List UInt8) × Nat) :=
 if !aX t c then ((false,9),(c,ps,hops)) else if decide ((120:Int)<(kJ c s).length) then ((false,12),(c,ps,hops))
 else match aN t (kJ c s) with
 | none=>if ps == [] then ((false,0),(kJ c s,ps,hops)) else ((false,6),(c,ps,hops))
 | some n=>if n.k==3 && (!(ps == []) || fo) then ((true,zPb n.d hops),(zPa n.d hops c,zPc n.d hops ps,hops+1)) else ((true,0),(kJ c s,ps,hops))
theorem wA{s:List UInt8}:(fX s).1.length<=121:=by
 unfold fX;split
 .simp
 .split
  .simp
  .split
   .rename_i h _ _;have h:¬ (120:Int)<s.length:=by simpa using h
    refine Nat.le_trans (List.length_filter_le ..) (Nat.le_trans (sU s []) ?_);omega
   .simp
theorem GC{s:List UInt8}:∀p∈(fX s).1,p.length<=120:=by
 intro p hp;unfold fX at hp;split at hp
 .simp at hp
 .rename_i h;split at hp
  .simp at hp
  .split at hp
   .have:=xP s [] p (List.mem_filter.1 hp).1;have h:¬ (120:Int)<s.length:=by simpa using h
    simp at this;omega
   .simp at hp
structure WI (t:List It) (fo:Bool) (W:List UInt8 × Bool × Int) (f:Nat) (c:List UInt8) (ps:List (List UInt8)) (hops:Nat) (there:Bool) (e:Int):Prop where
 cl:c.length<=120
 pl:∀p∈ps,p.length<=120
 fl:f<=1400
 hl:hops<=9
 go:e=0->hops<=8/\(9-hops)*130+ps.length<f/\(ps≠[]->there=true/\oA t fo f c ps hops=W)/\(ps=[]->W=(c,there,0))
 no:e≠0->W=([],false,e)
theorem MC(c:List UInt8):(aM c).length<=c.length:=by
 by_cases h:aM c=[]
 .rw[h];simp
 .exact Nat.le_of_lt (sZ h)
section
variable {t:List It}{fo:Bool}{W:List UInt8 × Bool × Int}{f:Nat}{c p:List UInt8}{ps:List (List UInt8)}{hops:Nat}{there:Bool}
theorem WI.next{c':List UInt8}(h:WI t fo W (f+1) c (p::ps) hops there 0)(hc:c'.length<=120)(hw:oA t fo (f+1) c (p::ps) hops=oA t fo f c' ps hops):WI t fo W f c' ps hops true 0:=by
 obtain⟨h1,h2,h3,_⟩:=h.go rfl;obtain⟨ht,hW⟩:=h3 (by simp);rw[hw] at hW;have hfl:=h.fl;simp only[List.length_cons] at h2;refine⟨hc,λq hq=>h.pl q (List.mem_cons_of_mem _ hq),by omega,by omega,λ_=>⟨h1,by omega,λ_=>⟨rfl,hW⟩,λh0=>?_⟩,λh0=>absurd rfl h0⟩
 subst h0;obtain⟨k,rfl⟩:∃k,f=k+1:=⟨f-1,by omega⟩
 rw[<- hW];rfl
theorem WI.there_true(h:WI t fo W f c (p::ps) hops there 0):there=true:=((h.go rfl).2.2.1 (by simp)).1
theorem WI.dot(h:WI t fo W (f+1) c (p::ps) hops there 0)(hp:(p == [46])=true):WI t fo W f c ps hops there 0:=by
 rw[h.there_true];exact h.next h.cl (by simp only[oA,hp,if_true])
theorem WI.dots(h:WI t fo W (f+1) c (p::ps) hops there 0)(hp:(p == [46])=false)(hq:(p == [46,46])=true):WI t fo W f (aM c) ps hops there 0:=by
 rw[h.there_true];exact h.next (Nat.le_trans (MC c) h.cl) (by simp only[oA,hp,hq,if_true,Bool.false_eq_true,if_false])
theorem WI.down(h:WI t fo W (f+1) c (p::ps) hops there 0)(hp:(p == [46])=false)(hq:(p == [46,46])=false):
  WI t fo W f (vC t fo c p ps hops).2.1 (vC t fo c p ps hops).2.2.1 (vC t fo c p ps hops).2.2.2 (vC t fo c p ps hops).1.1 (vC t fo c p ps hops).1.2:=by
 obtain ⟨h1,h2,h3,_⟩:=h.go rfl;obtain⟨ht,hW⟩:=h3 (by simp);have hfl:=h.fl;simp only[List.length_cons] at h2;have hpl:∀q∈ps,q.length<=120:=λq hq=>h.pl q (List.mem_cons_of_mem _ hq);have fell:∀{e:Int} {c':List UInt8} {ps':List (List UInt8)} {h':Nat} {th:Bool},e≠0->W=([],false,e)->c'.length<=120->(∀q∈ps',q.length<=120)->h'<=9->WI t fo W f c' ps' h' th e :=
  λhe hw a b g=>⟨a,b,by omega,g,λh0=>absurd h0 he,λ_=>hw⟩
 simp only[oA,hp,hq,Bool.false_eq_true,if_false] at hW;unfold vC;split
 .rename_i hd;rw[if_pos hd] at hW;show WI t fo W f c ps hops false 9;exact fell (by decide) hW.symm h.cl hpl (by omega)
 .rename_i hd;rw[if_neg hd] at hW;split
  .rename_i hl;rw[if_pos hl] at hW;show WI t fo W f c ps hops false 12;exact fell (by decide) hW.symm h.cl hpl (by omega)
  .rename_i hl;rw[if_neg hl] at hW;have hjl:(kJ c p).length<=120:=by simp only[decide_eq_true_eq] at hl;omega
   cases hg:aN t (kJ c p) with
   | none =>
    rw[hg] at hW;simp only at hW ⊢;split
    .rename_i hps;rw[if_pos hps] at hW;have hps:=eq_of_beq hps;subst hps;simp only;exact⟨hjl,hpl,by omega,by omega,λ_=>⟨h1,by simp only[List.length_nil] at h2 ⊢;omega,λh0=>absurd rfl h0,λ_=>hW.symm⟩,λh0=>absurd rfl h0⟩
    .rename_i hps;rw[if_neg hps] at hW;show WI t fo W f c ps hops false 6;exact fell (by decide) hW.symm h.cl hpl (by omega)
   | some n =>
    rw[hg] at hW;simp only at hW ⊢;split
    .rename_i hlk;rw[if_pos hlk] at hW;unfold zPb zPa zPc;simp only at hW ⊢;split
     .rename_i h8;rw[if_pos h8] at hW;exact fell (by decide) hW.symm h.cl hpl (by omega)
     .rename_i h8;rw[if_neg h8] at hW;simp only[decide_eq_true_eq] at h8;have hsl:=wA (s:=n.d);have hsm:=GC (s:=n.d);cases he:((fX n.d).2==0)
      .rw[he] at hW;simp only[Bool.false_eq_true,if_false] at hW ⊢;exact fell (by simpa using he) hW.symm h.cl hpl (by omega)
      .rw [he] at hW;simp only[if_true] at hW ⊢;have he:=eq_of_beq he;rw[he];refine⟨by split;simp;exact h.cl,λq hq=>?_,by omega,by omega,λ_=>⟨by omega,by rw[List.length_append];omega,λ_=>⟨rfl,hW⟩,λh0=>?_⟩,λh0=>absurd rfl h0⟩
       .rcases List.mem_append.1 hq with hq|hq
        .exact hsm q hq
        .exact hpl q hq
       .rw[h0] at hW;obtain⟨k,rfl⟩:∃k,f=k+1:=⟨f-1,by omega⟩
        rw[<- hW];rfl
    .rename_i hlk;rw[if_neg hlk] at hW;simp only;refine⟨hjl,hpl,by omega,by omega,λ_=>⟨h1,by omega,λ_=>⟨rfl,hW⟩,λh0=>?_⟩,λh0=>absurd rfl h0⟩
     subst h0;obtain⟨k,rfl⟩:∃k,f=k+1:=⟨f-1,by omega⟩
     rw[<- hW];rfl
end
theorem pU{t:List It}{fo:Bool}:∀(f:Nat) (c:List UInt8) (ps:List (List UInt8)) (hops:Nat),c.length<=120->(oA t fo f c ps hops).1.length<=120
 | 0,_,_,_,_=>by simp[oA]
 | _+1,_,[],_,h=>h
 | f+1,c,p::ps,hops,h=>by
  simp only[oA];split
  .exact pU f _ _ _ h
  .split
   .exact pU f _ _ _ (Nat.le_trans (MC c) h)
   .split
    .simp
    .split
     .simp
     .rename_i hl;have hjl:(kJ c p).length<=120:=by simp only[decide_eq_true_eq] at hl;omega
      split
      .split
       .exact hjl
       .simp
      .split
       .split
        .simp
        .split
         .refine pU f _ _ _ ?_;split
          .simp
          .exact h
         .simp
       .exact pU f _ _ _ hjl
theorem RV{t:List It}{s:List UInt8}{fo:Bool}:(cV t s fo).1.length<=120:=by
 unfold cV;split
 .exact pU _ _ _ _ (by simp)
 .simp
end
structure RC where
 k:Int
 p:Int
 to':Int
 m:Int
 t:Int
 at':Int
 n:Int
 how:Int
 x:Nat
 d:List UInt8
 s:List UInt8
def RC.cs(x:RC):List PV:=[.i .i64 x.k,.i .i64 x.p,.i .i64 x.to',.i .i64 x.m,.i .i64 x.t,.i .i64 x.at',.i .i64 x.n,.i .i64 x.how,.f x.x,.sl 1 (bJ x.d),.s x.s]
def zNK(l:List RC):List (List PV):=l.map RC.cs
theorem zDP(l:List RC):(zNK l).length=l.length:=by simp[zNK]
attribute [go_sem] zDP
def QV(n how:Int)(s:List UInt8):List UInt8 :=
 if how % 24==0 then 47::tT n else if how % 24==1 then tT n++[47] else if how % 24==2 then 46::47::tT n
 else if how % 24==3 then tT n++[47,46,46] else if how % 24==4 then tT n++[47,46,46,47]++vN n else if how % 24==5 then tT n++[47,46]
 else if how % 24==6 then s else if how % 24==7 then [47] else if how % 24==8 then vN n++[47,47]++vN (IntKind.i64.wrap (n.tdiv 6)) else tT n
theorem QW{n how:Int}{s:List UInt8}{b:Nat}(hb:100<=b)(hs:s.length<=b):(QV n how s).length<=b:=by
 have h1:=tU n;have h2:=iC n;have h3:=iC (IntKind.i64.wrap (n.tdiv 6));unfold QV
 repeat' split
 all_goals first|(simp only[List.length_append,List.length_cons,List.length_nil];omega)|omega
def HB(k:Int)(x:RC):Cl where
 k:=k
 p:=QV x.p x.how x.s
 to':=if k==9 then QV x.to' (IntKind.i64.wrap (x.how.tdiv 24)) x.s else []
 m:=if k==1 || k==2 || k==10 then x.m % 4099-1 else 0
 t:=if k==1 || k==2 || k==7 || k==11 then CI x.t x.x else 0
 at':=if k==3 || k==14 then x.at' % 30-1 else 0
 n:=if k==4 || k==14 then x.n % 40-1 else 0
 d:=if k==2 || k==3 then (if x.n.tmod 67==66 then List.replicate (1980+(x.at' % 40).toNat) 0 else x.d.take 60) else if k==7 then (if x.n.tmod 17==16 then x.d.take 200 else JG x.to') else []
structure OkC (c:Cl):Prop where
 p:c.p.length<=9223372036854775807
 q:c.to'.length<=9223372036854775807
 t:c.t<18446744073709551616
 d:c.d.length<=140737488355328
 a:-9223372036854775808<=c.at'/\c.at'<=9223372036854775807
theorem zG7{k:Int}{x:RC}(hs:x.s.length<=9223372036854775807)(hx:x.x<18446744073709551616):OkC (HB k x):=by
 have a1:=Int.emod_nonneg x.at' (show (30:Int)≠0 by decide)
 have a2:=Int.emod_lt_of_pos x.at' (show (0:Int)<30 by decide)
 have a3:=Int.emod_nonneg x.at' (show (40:Int)≠0 by decide)
 have a4:=Int.emod_lt_of_pos x.at' (show (0:Int)<40 by decide)
 refine⟨QW (by omega) hs,?_,?_,?_,?_⟩
 .simp only[HB];split
  .exact QW (by omega) hs
  .simp
 .simp only[HB];split
  .exact zJL hx
  .omega
 .have:=zEM x.to';simp only[HB]
  repeat' split
  all_goals first|(simp only[List.length_replicate];omega)|(simp only[List.length_take];omega)|omega|simp
 .simp only[HB];split<;>omega
theorem zKm(k:Int):k=1∨k=2∨k=3∨k=4∨k=7∨k=9∨k=10∨k=11∨k=14 ∨
  ((k==1)=false/\(k==2)=false/\(k==3)=false/\(k==4)=false/\(k==7)=false/\(k==9)=false/\(k==10)=false/\(k==11)=false/\(k==14)=false):=by
 simp only[beq_eq_false_iff_ne];omega
end Go.Dm
end
section
namespace Go.Proofs.YtlbfnbldeefgmaaGreatDoor
open Go Go.ChangeShapes Go.Dm Go.RowKit Go.WideShapes
section
theorem zOn{g:Nat}{xs:List PV}(h:qU tab (g+1) 9 xs):∃l,xs=[.s l]/\l.length<=9223372036854775807:=by
 simp only[qU,tab9] at h;obtain⟨n,h,h2⟩:=h;exact⟨n,h,h2⟩
def OkRC(r:RC):Prop:=r.d.length<=9223372036854775807/\r.s.length<=9223372036854775807/\r.x<18446744073709551616
theorem zPE{g:Nat}{xs:List PV}(h:qU tab (g+1+1+1) 39 xs):∃r:RC,xs=r.cs/\OkRC r:=by
 obtain⟨parts,rfl,hp⟩:=BK (by rw[tab39]) h;obtain⟨a1,_,rfl,h1,hp⟩:=dP hp;obtain⟨a2,_,rfl,h2,hp⟩:=dP hp;obtain⟨a3,_,rfl,h3,hp⟩:=dP hp;obtain⟨a4,_,rfl,h4,hp⟩:=dP hp;obtain⟨a5,_,rfl,h5,hp⟩:=dP hp;obtain⟨a6,_,rfl,h6,hp⟩:=dP hp;obtain⟨a7,_,rfl,h7,hp⟩:=dP hp;obtain⟨a8,_,rfl,h8,hp⟩:=dP hp;obtain⟨a9,_,rfl,h9,hp⟩:=dP hp;obtain⟨a10,_,rfl,h10,hp⟩:=dP hp;obtain⟨a11,_,rfl,h11,hp⟩:=dP hp;obtain rfl:=zFF hp;obtain⟨n1,rfl⟩:=mS h1;obtain⟨n2,rfl⟩:=mS h2;obtain⟨n3,rfl⟩:=mS h3;obtain⟨n4,rfl⟩:=mS h4;obtain⟨n5,rfl⟩:=mS h5;obtain⟨n6,rfl⟩:=mS h6;obtain⟨n7,rfl⟩:=mS h7;obtain⟨n8,rfl⟩:=mS h8;obtain⟨n9,rfl,hn9⟩:=zJf h9;obtain⟨n10,rfl,hn10⟩:=ZB h10;obtain⟨n11,rfl,hn11⟩:=zOn h11;exact⟨⟨n1,n2,n3,n4,n5,n6,n7,n8,n9,n10,n11⟩,rfl,hn10,hn11,hn9⟩
section
variable {H:Type}{enc:TypeId × Value->H}{W:World}{base:Nat}{v:Value}{d:DataW H}{p:List MemPlace}
end
end
end Go.Proofs.YtlbfnbldeefgmaaGreatDoor
end
