/- Part 22 of the proof of roomMerges_card, set without needless blanks. No condition. -/
import Derived.Test.YtflcjdohmojepaaGreatDoorM20
set_option linter.all false
set_option maxRecDepth 100000
set_option maxHeartbeats 16000000
section
namespace Go.Dm
open Go
def fY(s:List UInt8):List (List UInt8) × Int :=
 if decide ((120:Int)<s.length) then ([],12) else if !(s.all λb=>!((b.toNat:Int)==0)) then ([],1)
 else if (qW s).all λx=>!decide ((24:Int)<x.length) then ((qW s).filter λx=>!(x == []),0) else ([],12)
def MT(d:List UInt8):Bool:=match d with
 | b::_=>(b.toNat:Int)==47
 | []=>false
def oP(t:List It)(fo:Bool):Nat->List UInt8->List (List UInt8)->Nat->List UInt8 × Bool × Int
 | 0,_,_,_=>([],false,11)
 | _+1,c,[],_=>(c,true,0)
 | f+1,c,p::ps,h =>
  if p == [46] then oP t fo f c ps h else if p == [46,46] then oP t fo f (aU c) ps h
  else if !bC t c then ([],false,9) else if decide ((120:Int)<(kI c p).length) then ([],false,12)
  else match aM t (kI c p) with
  | none=>if ps == [] then (kI c p,false,0) else ([],false,6)
  | some n=>if n.k==3 && (!(ps == []) || fo) then (if decide (8<=h) then ([],false,11) else if (fY n.d).2==0 then oP t fo f (if MT n.d then [] else c) ((fY n.d).1++ps) (h+1) else ([],false,(fY n.d).2)) else oP t fo f (kI c p) ps h
def cR(t:List It)(s:List UInt8)(fo:Bool):List UInt8 × Bool × Int :=
 if (fY s).2==0 then oP t fo 1400 [] (fY s).1 0 else ([],false,(fY s).2)
structure Cl where
 k:Int
 p:List UInt8
 to':List UInt8
 m:Int
 t:Nat
 at':Int
 n:Int
 d:List UInt8
structure An where
 e:Int
 n:Nd
 d:List UInt8
 l:List (List UInt8)
def anE(e:Int):An:=⟨e,nd0,[],[]⟩
def gU(k:Int):Bool:=k==3 || k==4 || k==10 || k==11 || k==12 || k==14 || k==15
def nH(k:Int):Bool:=decide (1<=k) && decide (k<=11) && !(k==8)
def kS(m:Int):Bool:=decide (0<=m) && decide (m<=4095)
def nodeAt(t:List It)(p:List UInt8):Nd:=if p == [] then ⟨2,0,0,[]⟩ else (aM t p).getD nd0
def wrD(had:List UInt8)(f:Nat)(b:List UInt8):List UInt8:=had.take f++b++had.drop (f+b.length)
def zAh(is:Bool)(n:Nd):Bool:=is && n.k==2
def zM5(kind:Int)(c:Cl):Nd:=⟨kind,if kind==3 then 511 else c.m,bJ c.t,if kind==2 then [] else c.d⟩
def yK(t:List It)(p:List UInt8)(is:Bool)(kind:Int)(c:Cl):List It × Int :=
 if is then ([],7) else if !kS (zM5 kind c).m then ([],1)
 else if kind==3 && (decide ((c.d.length:Int)<1) || decide ((120:Int)<c.d.length) || !(c.d.all λb=>!(b==0))) then ([],1)
 else if kind==1 && decide ((2000:Int)<c.d.length) then ([],16) else mE t p (zM5 kind c)
def wC(is:Bool)(n:Nd):Int:=if !is then 6 else if zAh is n then 8 else 0
def EC(t:List It)(p:List UInt8)(n:Nd)(from':Int)(b:List UInt8):List It × Int :=
 if decide (from'<0) || decide ((n.d.length:Int)<from') then ([],1) else if decide (2000-from'<(b.length:Int)) then ([],16)
 else mE t p ⟨n.k,n.m,n.t,wrD n.d from'.toNat b⟩
def DX(t:List It)(p:List UInt8)(n:Nd)(k:Int):List It × Int :=
 if decide (k<0) || decide ((n.d.length:Int)<k) then ([],1) else mE t p ⟨n.k,n.m,n.t,n.d.take k.toNat⟩
def DC(t:List It)(p:List UInt8)(is:Bool)(n:Nd):List It × Int :=
 if p == [] then ([],1) else if !is then ([],6) else if !zAh is n then ([],9) else if decide ((0:Int)<(iG t p).length) then ([],10) else (bR t p,0)
def zLA(t:List It)(p:List UInt8)(is:Bool)(n:Nd)(c:Cl):List It × Int :=
 if !is then ([],6) else if p == [] || c.k==10 && !kS c.m then ([],1)
 else if c.k==10 then mE t p ⟨n.k,c.m,n.t,n.d⟩ else mE t p ⟨n.k,n.m,bJ c.t,n.d⟩
def zCe(d:Bool)(t:List It)(q:List UInt8)(is:Bool)(n:Nd):Int :=
 if !is then 0 else if d && !zAh is n then 9 else if d && decide ((0:Int)<(iG t q).length) then 10 else if !d && zAh is n then 8 else 0
def tJ(t:List It)(p:List UInt8)(is:Bool)(n:Nd)(to':List UInt8):List It × Int :=
 if !is then ([],6) else if !((cR t to' false).2.2==0) then ([],(cR t to' false).2.2)
 else if p == [] || (cR t to' false).1 == [] then ([],1) else if p==(cR t to' false).1 then (t,0)
 else if aO p (cR t to' false).1 then ([],18)
 else if !(zCe (zAh is n) t (cR t to' false).1 (cR t to' false).2.1 (nodeAt t (cR t to' false).1)==0) then ([],zCe (zAh is n) t (cR t to' false).1 (cR t to' false).2.1 (nodeAt t (cR t to' false).1))
 else jQ (bR t (cR t to' false).1) p (cR t to' false).1
def cI(t:List It)(p:List UInt8)(is:Bool)(n:Nd)(c:Cl):List It × Int :=
 if c.k==1 then yK t p is 2 c else if c.k==2 then yK t p is 1 c else if c.k==7 then yK t p is 3 c else if c.k==6 then DC t p is n
 else if c.k==10 || c.k==11 then zLA t p is n c else if c.k==9 then tJ t p is n c.to'
 else if !(wC is n==0) then ([],wC is n) else if c.k==3 then EC t p n c.at' c.d else if c.k==4 then DX t p n c.n else (bR t p,0)
def CQ(is:Bool)(n:Nd)(from' k:Int):An :=
 if !(wC is n==0) then anE (wC is n) else if decide (from'<0) || decide (k<0) then anE 1 else ⟨0,nd0,(n.d.drop from'.toNat).take k.toNat,[]⟩
def mJ(t:List It)(p:List UInt8)(is:Bool)(n:Nd)(c:Cl):An :=
 if c.k==14 then CQ is n c.at' c.n else if !is then anE 6 else if c.k==8 && !(n.k==3) then anE 1 else if c.k==8 then ⟨0,nd0,n.d,[]⟩
 else if c.k==15 && !zAh is n then anE 9 else if c.k==15 then ⟨0,nd0,[],iG t p⟩ else ⟨0,n,[],[]⟩
def doP(t:List It)(c:Cl):List It × An :=
 if decide (c.k<1) || decide (15<c.k) then (t,anE 1) else if !((cR t c.p (gU c.k)).2.2==0) then (t,anE (cR t c.p (gU c.k)).2.2)
 else if !nH c.k then (t,mJ t (cR t c.p (gU c.k)).1 (cR t c.p (gU c.k)).2.1 (nodeAt t (cR t c.p (gU c.k)).1) c)
 else if (cI t (cR t c.p (gU c.k)).1 (cR t c.p (gU c.k)).2.1 (nodeAt t (cR t c.p (gU c.k)).1) c).2==0 then ((cI t (cR t c.p (gU c.k)).1 (cR t c.p (gU c.k)).2.1 (nodeAt t (cR t c.p (gU c.k)).1) c).1,anE 0)
 else (t,anE (cI t (cR t c.p (gU c.k)).1 (cR t c.p (gU c.k)).2.1 (nodeAt t (cR t c.p (gU c.k)).1) c).2)
def AM(t:List It)(c:Cl)(p:List UInt8)(is:Bool):List It × Int :=
 if is then (t,7)
 else if decide ((if c.k==7 then 511 else c.m)<0) || decide ((4095:Int)<(if c.k==7 then 511 else c.m)) || c.k==7 && !lA c.d then (t,1)
 else if c.k==2 && decide ((2000:Int)<c.d.length) then (t,16)
 else mE t p ⟨if c.k==2 then 1 else if c.k==7 then 3 else 2,if c.k==7 then 511 else c.m,bJ c.t,if c.k==2 || c.k==7 then c.d else []⟩
def YQ(t:List It)(p:List UInt8)(dir:Bool)(to':List UInt8):List It × Int :=
 if !((cR t to' false).2.2==0) then (t,(cR t to' false).2.2)
 else if p == [] || (cR t to' false).1 == [] then (t,1) else if p==(cR t to' false).1 then (t,0)
 else if aO p (cR t to' false).1 then (t,18)
 else if (cR t to' false).2.1 then
  (if dir && !bC t (cR t to' false).1 then (t,9) else if dir && decide ((0:Int)<(iG t (cR t to' false).1).length) then (t,10)
   else if !dir && bC t (cR t to' false).1 then (t,8) else jQ (bR t (cR t to' false).1) p (cR t to' false).1)
 else jQ t p (cR t to' false).1
def tN(t:List It)(c:Cl)(p:List UInt8)(is:Bool):List It × An :=
 let n:=(aM t p).getD nd0
 let dir:=is && bC t p
 if c.k==1 || c.k==2 || c.k==7 then ((AM t c p is).1,anE (AM t c p is).2)
 else if c.k==6 && p == [] then (t,anE 1) else if !is then (t,anE 6)
 else if c.k==3 then (if dir then (t,anE 8) else if decide (c.at'<0) || decide ((n.d.length:Int)<c.at') then (t,anE 1) else if decide (2000-c.at'<(c.d.length:Int)) then (t,anE 16) else (tP t p ⟨n.k,n.m,n.t,wrD n.d c.at'.toNat c.d⟩,anE 0))
 else if c.k==4 then (if dir then (t,anE 8) else if decide (c.n<0) || decide ((n.d.length:Int)<c.n) then (t,anE 1) else (tP t p ⟨n.k,n.m,n.t,n.d.take c.n.toNat⟩,anE 0))
 else if c.k==5 then (if dir then (t,anE 8) else (bR t p,anE 0))
 else if c.k==6 then (if !dir then (t,anE 9) else if decide ((0:Int)<(iG t p).length) then (t,anE 10) else (bR t p,anE 0))
 else if c.k==8 then (if !(n.k==3) then (t,anE 1) else (t,⟨0,nd0,n.d,[]⟩))
 else if c.k==12 || c.k==13 then (t,⟨0,nodeAt t p,[],[]⟩)
 else if c.k==14 then (if dir then (t,anE 8) else if decide (c.at'<0) || decide (c.n<0) then (t,anE 1) else (t,⟨0,nd0,(n.d.drop c.at'.toNat).take c.n.toNat,[]⟩))
 else if c.k==15 then (if !dir then (t,anE 9) else (t,⟨0,nd0,[],iG t p⟩))
 else if c.k==10 then (if p == [] || decide (c.m<0) || decide (4095<c.m) then (t,anE 1) else (tP t p ⟨n.k,c.m,n.t,n.d⟩,anE 0))
 else if c.k==11 then (if p == [] then (t,anE 1) else (tP t p ⟨n.k,n.m,bJ c.t,n.d⟩,anE 0))
 else ((YQ t p dir c.to').1,anE (YQ t p dir c.to').2)
def doR(t:List It)(c:Cl):List It × An :=
 if decide (c.k<1) || decide (15<c.k) then (t,anE 1) else if !((cR t c.p (gU c.k)).2.2==0) then (t,anE (cR t c.p (gU c.k)).2.2)
 else if (tN t c (cR t c.p (gU c.k)).1 (cR t c.p (gU c.k)).2.1).2.e==0 then tN t c (cR t c.p (gU c.k)).1 (cR t c.p (gU c.k)).2.1
 else (t,anE (tN t c (cR t c.p (gU c.k)).1 (cR t c.p (gU c.k)).2.1).2.e)
section
variable {c p:List UInt8}{t:List It}
theorem zJA{x:List UInt8}(h:x≠[]):kI c x≠[]:=by
 unfold kI;split
 .exact h
 .simp
theorem zGs{b:List UInt8}(h:Par t)(hb:b≠[]):∀(n:Nat) (q:List UInt8),q.length<=n->(aM t q).isSome=true->aO b q=true->bC t b=true
 | 0,q,hl,_,hq=>by
  have h1:q=[]:=by simp_all
  have h2:=dR hq;simp_all
 | n+1,q,hl,hs,hq=>by
  obtain⟨m,hm⟩:=Option.isSome_iff_exists.1 hs;obtain⟨x,hx,rfl,_⟩:=cB hm;have hdx:=h x hx;rcases jN hb hq with h1|h1
  .simp_all
  .have h0:aU x.p≠[]:=by
    intro h0;have:=dR h1;simp_all
   obtain⟨m,h2,_⟩:=cS h0 hdx;have hlt:=uD h0;exact zGs h hb n _ (by omega) (by rw[h2];rfl) h1
theorem GO(h:OkT t)(hp:p≠[])(hd:bC t p=false):bG t p=t:=by
 unfold bG;refine List.filter_eq_self.2 λx hx=>?_;cases hb:aO p x.p
 .rfl
 .have:=zGs h.par hp _ x.p (Nat.le_refl _) (by rw[cP h.srt hx];rfl) hb;simp_all
theorem pP(hp:p≠[]):bC t p=match aM t p with|some n=>n.k==2|none=>false:=by grind [bC]
theorem zMj(h:aM t p=none):mM t p=t:=by
 unfold mM;refine List.filter_eq_self.2 λx hx=>?_;cases hb:x.p==p
 .rfl
 .exfalso;have:∀{t:List It},x∈t->aM t p≠none:=by
   intro t ht
   induction t with
   | nil=>simp at ht
   | cons y r ih =>
    grind [aM]
  simp_all
theorem zGN(h:OkT t)(hp:p≠[])(hn:aM t p=none):bR t p=t:=by grind [bR,GO,pP,zMj]
def lK(t:List It)(fo:Bool)(r:List UInt8 × Bool × Int):Prop :=
 r.2.2=0->(r.2.1=true->r.1=[]∨∃n,aM t r.1=some n/\(fo=true->(n.k==3)=false))/\(r.2.1=false->r.1≠[]/\aM t r.1=none)
def InT(t:List It)(c:List UInt8):Prop:=c=[]∨∃n,aM t c=some n
theorem TZ{s:List UInt8}:∀x∈(fY s).1,x≠[]:=by grind [fY]
theorem PK(h:OkT t)(hc:InT t c):bC t (aU c)=true:=by
 rcases hc with rfl|⟨n,hn⟩
 .rfl
 .obtain⟨x,hx,rfl,_⟩:=cB hn;exact h.par x hx
theorem zLh(h:bC t c=true):c=[]∨∃n,aM t c=some n/\(n.k==3)=false:=by grind [cS]
theorem lB(h:OkT t){fo:Bool}:∀(f:Nat) (c:List UInt8) (ps:List (List UInt8)) (hops:Nat),(c=[]∨∃n,aM t c=some n/\(fo=true->(n.k==3)=false))->(∀x∈ps,x≠[])->lK t fo (oP t fo f c ps hops)
 | 0,c,ps,hops,hc,hps=>by intro h0;simp[oP] at h0
 | f+1,c,[],hops,hc,hps=>by
  intro _;simp only[oP];exact⟨λ_=>hc,λh=>by cases h⟩
 | f+1,c,p::ps,hops,hc,hps=>by
  have hpn:=hps p List.mem_cons_self;have hps':∀x∈ps,x≠[]:=λx hx=>hps x (List.mem_cons_of_mem _ hx);have bad:∀e:Int,e≠0->lK t fo ([],false,e):=λe he h0=>absurd h0 he;simp only[oP];split
  .exact lB h f c ps hops hc hps'
  .split
   .refine lB h f _ ps hops ?_ hps';have hd:bC t (aU c)=true:=PK h (hc.imp id λ⟨n,hn,_⟩=>⟨n,hn⟩);exact(zLh hd).imp id λ⟨n,h1,h2⟩=>⟨n,h1,λ_=>h2⟩
   .split
    .exact bad 9 (by decide)
    .split
     .exact bad 12 (by decide)
     .rename_i hdir _;have hdir:bC t c=true:=by simpa using hdir
      split
      .rename_i hg;split
       .refineλ_=>⟨λh=>?_,λ_=>⟨zJA hpn,hg⟩⟩;cases h
       .exact bad 6 (by decide)
      .rename_i n hg;split
       .split
        .exact bad 11 (by decide)
        .split
         .refine lB h f _ _ _ ?_ ?_
          .split
           .exact .inl rfl
           .exact(zLh hdir).imp id λ⟨n,h1,h2⟩=>⟨n,h1,λ_=>h2⟩
          .intro x hx;rcases List.mem_append.1 hx with hx|hx
           .exact TZ x hx
           .exact hps' x hx
         .rename_i he;exact bad _ (by simpa using he)
       .rename_i hlk;refine lB h f _ ps hops (.inr ⟨n,hg,λhf=>?_⟩) hps';rw[hf,Bool.or_true,Bool.and_true] at hlk;simpa using hlk
theorem DZ(h:OkT t)(s:List UInt8)(fo:Bool):lK t fo (cR t s fo):=by
 unfold cR;split
 .grind [lB,TZ]
 .rename_i he;exactλh0=>absurd h0 (by simpa using he)
end
section
variable {t:List It}{p:List UInt8}{n:Nd}{is fo:Bool}
theorem TT(p:List UInt8)(n:Nd):∀(t:List It) (d:Bool),(xW p n d t).length=(mM t p).length+(if d then 0 else 1)
 | [],d=>by cases d<;>rfl
 | x::r,d=>by
  have h:=TT p n r (d || !cD x.p p);grind [xW,mM]
theorem zMi(h:(aM t p).isSome=true):(mM t p).length<t.length:=by
 induction t<;>grind [aM,mM]
theorem LU(h:OkT t)(hs:(aM t p).isSome=true)(hn:aR n=true)(hk:(n.k==2)=false->bC t p=false):mE t p n=(tP t p n,0):=by
 obtain⟨h1,h2,_⟩:=h.getok hs;obtain⟨m,hm⟩:=Option.isSome_iff_exists.1 hs;have h3:bC t (aU p)=true:=PK h (.inr ⟨m,hm⟩);have h4:(if n.k != 2 then bG t p else t)=t:=by grind [GO]
 have h5:(tP t p n).length<=120:=by
  have e:=TT p n t false;have l:=zMi hs;have:=h.len;grind [tP]
 grind [mE]
theorem DA: aR n=true↔(0<=n.m/\n.m<=4095/\CM n.t=true)/\(if n.k==1 then decide ((n.d.length:Int)<=2000) else if n.k==2 then (n.d.length:Int)==0 else if n.k==3 then lA n.d else false)=true:=by grind [aR]
theorem zCl(x:Nat):CM (bJ x)=true:=by grind [CM,zBg]
theorem zCC{m:Int}(h:aR n=true)(hm:kS m=true):aR ⟨n.k,m,n.t,n.d⟩=true:=by grind [DA,kS]
theorem zCE{x:Nat}(h:aR n=true):aR ⟨n.k,n.m,bJ x,n.d⟩=true:=by grind [DA,zCl]
theorem HL{d:List UInt8}(h:aR n=true)(hk2:(n.k==2)=false)(hk3:(n.k==3)=false)(hd:d.length<=2000):aR ⟨n.k,n.m,n.t,d⟩=true:=by grind [DA]
theorem zHO{had b:List UInt8}{f:Nat}(h1:had.length<=2000)(h2:f<=had.length)(h3:f+b.length<=2000):(wrD had f b).length<=2000:=by grind [wrD]
def yA(x:List It × Int)(y:List It × An):Prop:=y.2=anE x.2/\(x.2=0->y.1=x.1)
theorem eP{e:Int}(he:e≠0):yA ([],e) (t,anE e):=⟨rfl,λh=>absurd h he⟩
theorem rM{u:List It}:yA (u,0) (u,anE 0):=⟨rfl,λ_=>rfl⟩
theorem zNh{x:List It × Int}{y:List It × An}(h:yA x y):(if x.2==0 then (x.1,anE 0) else (t,anE x.2))=(if y.2.e==0 then y else (t,anE y.2.e)):=by
 obtain⟨y1,y2⟩:=y;obtain⟨h1,h2⟩:=h;grind [anE]
theorem nG(h:lK t fo (p,is,0)):(p=[]->is=true)/\(p≠[]->is=(aM t p).isSome):=by
 obtain⟨h1,h2⟩:=h rfl;constructor
 .grind
 .intro hp;cases is
  .simp_all
  .grind
theorem sI(h:lK t fo (p,is,0)):zAh is (nodeAt t p)=(is && bC t p):=by
 unfold zAh nodeAt;by_cases hp:p=[]
 .subst hp;rfl
 .grind [pP,nG]
theorem wI(hp:p≠[]):nodeAt t p=(aM t p).getD nd0:=by grind [nodeAt]
section kinds
variable {t:List It}{p:List UInt8}{is fo:Bool}{c:Cl}
theorem FT(h:OkT t)(hw:lK t true (p,true,0))(hd:bC t p=false):p≠[]/\(aM t p).isSome=true/\aR ((aM t p).getD nd0)=true/\(((aM t p).getD nd0).k==2)=false/\(((aM t p).getD nd0).k==3)=false:=by
 have hp:p≠[]:=by intro hp;subst hp;cases hd
 have hs:(aM t p).isSome=true:=((nG hw).2 hp).symm;have hr:=h.getok hs;obtain⟨h1,_⟩:=hw rfl;rcases h1 rfl with h1|⟨n,h1,h2⟩
 .exact absurd h1 hp
 .rw[pP hp] at hd;simp only at h1;rw[h1] at hd hr ⊢;exact⟨hp,rfl,hr.2.2,hd,h2 rfl⟩
theorem MB(h:OkT t)(kind:Int)(hk:(c.k==7)=(kind==3))(hk1:(c.k==2)=(kind==1))(hk2:kind=1∨kind=2∨kind=3):yA (yK t p is kind c) ((AM t c p is).1,anE (AM t c p is).2):=by
 unfold yK AM;cases is
 .simp only[Bool.false_eq_true,if_false];have hm:(zM5 kind c).m=if c.k==7 then 511 else c.m:=by unfold zM5;rw[hk]
  rw[hm];generalize hmm:(if c.k==7 then (511:Int) else c.m)=m
  have hM:(decide (m<0) || decide ((4095:Int)<m)) = !kS m:=by
   unfold kS;rw[Bool.not_and,<- decide_not,<- decide_not]
   congr 1<;>exact decide_eq_decide.2 (by omega)
  have hT:(decide ((c.d.length:Int)<1) || decide ((120:Int)<c.d.length) || !(c.d.all λb=>!(b==0))) = !lA c.d:=by
   unfold lA;rw[Bool.not_and,Bool.not_and,<- decide_not,<- decide_not,Bool.or_comm];have e:(c.d.all λb=>!(b==0))=(c.d.all λb=>!((b.toNat:Int)==0)):=by
    congr 1;funext b
    congr 1
    rw[Bool.eq_iff_iff,beq_iff_eq,beq_iff_eq];constructor
    .rintro rfl;rfl
    .intro h;exact UInt8.toNat_inj.1 (by have:(0:UInt8).toNat=0:=rfl;omega)
   rw[e]
   congr 1
   congr 1<;>exact decide_eq_decide.2 (by omega)
  rw[hT,hM,hk,hk1];cases kS m
  .simp only[Bool.not_false,Bool.true_or,if_true];exact eP (by decide)
  .simp only[Bool.not_true,Bool.false_or,Bool.false_eq_true,if_false];split
   .exact eP (by decide)
   .split
    .exact eP (by decide)
    .have e:zM5 kind c=⟨if kind==1 then 1 else if kind==3 then 3 else 2,m,bJ c.t,if kind==1 || kind==3 then c.d else []⟩:=by
      unfold zM5;rw[<- hmm,hk];rcases hk2 with rfl|rfl|rfl<;>rfl
     rw[e];refine⟨rfl,λ_=>rfl⟩
 .simp only[if_true];exact eP (by decide)
theorem zGM(h:OkT t)(hw:lK t true (p,is,0))(hk:c.k=3):yA (cI t p is (nodeAt t p) c) (tN t c p is):=by
 have hd:=sI hw;simp only[cI,tN,wC,hk,hd,Int.reduceBEq,Bool.or_self,Bool.false_and,Bool.false_eq_true,if_false,if_true];grind [eP,FT,wI,iP,EC,LU,HL,zHO,rM]
theorem zGK(h:OkT t)(hw:lK t true (p,is,0))(hk:c.k=4):yA (cI t p is (nodeAt t p) c) (tN t c p is):=by grind [sI,cI,tN,wC,eP,FT,wI,iP,DX,LU,HL,rM]
theorem zCw(hw:lK t fo (p,is,0))(hk:c.k=5):yA (cI t p is (nodeAt t p) c) (tN t c p is):=by grind [sI,cI,tN,wC,eP,rM]
theorem zGJ(hw:lK t fo (p,is,0))(hk:c.k=6):yA (cI t p is (nodeAt t p) c) (tN t c p is):=by grind [sI,cI,tN,DC,eP,rM]
theorem zGI(h:OkT t)(hw:lK t fo (p,is,0))(hk:c.k=10):yA (cI t p is (nodeAt t p) c) (tN t c p is):=by
 simp only[cI,tN,zLA,hk,Int.reduceBEq,Bool.or_self,Bool.or_false,Bool.true_and,Bool.false_and,Bool.false_eq_true,if_false,if_true];cases is
 .grind [eP]
 .have hM:(p == [] || !kS c.m)=(p == [] || decide (c.m<0) || decide (4095<c.m)):=by
   grind [kS]
  rw[<- hM];simp only[Bool.not_true,Bool.false_eq_true,if_false];split
  .grind [eP]
  .rename_i h1;simp only[Bool.or_eq_true,not_or,Bool.not_eq_true',Bool.not_eq_false,beq_iff_eq] at h1;have hs:(aM t p).isSome=true:=((nG hw).2 h1.1).symm;rw[wI h1.1,LU h hs (zCC (h.getok hs).2.2 h1.2) λhk2=>?_]
   .exact rM
   .grind [pP]
theorem zGL(h:OkT t)(hw:lK t fo (p,is,0))(hk:c.k=11):yA (cI t p is (nodeAt t p) c) (tN t c p is):=by
 simp only[cI,tN,zLA,hk,Int.reduceBEq,Bool.or_self,Bool.or_false,Bool.or_true,Bool.false_and,Bool.false_eq_true,if_false,if_true];cases is
 .grind [eP]
 .simp only[Bool.not_true,Bool.false_eq_true,if_false];split
  .grind [eP]
  .rename_i h1;simp only[beq_iff_eq] at h1;have hs:(aM t p).isSome=true:=((nG hw).2 h1).symm;rw[wI h1,LU h hs (zCE (h.getok hs).2.2) λhk2=>?_]
   .exact rM
   .grind [pP]
theorem zCv(h:OkT t)(hw:lK t fo (p,is,0))(hk:c.k=9):yA (cI t p is (nodeAt t p) c) (tN t c p is):=by
 have hd:=sI hw;have hw2:=DZ h c.to' false;simp only[cI,tN,tJ,YQ,hk,hd,Int.reduceBEq,Bool.or_self,Bool.false_and,Bool.false_eq_true,if_false,if_true];cases is
 .grind [eP]
 .generalize cR t c.to' false=r at *;obtain⟨q,is2,e⟩:=r;by_cases he:e=0
  .subst he;simp only[beq_self_eq_true,Bool.not_true,Bool.false_eq_true,if_false];cases hpq:(p == [] || q == [])
   .simp only[Bool.or_eq_false_iff] at hpq;have hq:q≠[]:=by simp_all
    simp only[Bool.false_eq_true,if_false];split
    .exact⟨rfl,λ_=>rfl⟩
    .split
     .grind [eP]
     .have hi2:=(nG hw2).2 hq;cases is2
      .have:aM t q=none:=by
        simp_all
       rw[zGN h hq this];exact⟨rfl,λ_=>rfl⟩
      .simp only[zCe,sI hw2,Bool.not_true,Bool.true_and,Bool.false_eq_true,if_false,if_true];cases bC t p<;>cases bC t q<;>simp only[Bool.not_true,Bool.not_false,Bool.true_and,Bool.false_and,Bool.false_eq_true,if_false,if_true,beq_self_eq_true,Int.reduceBEq]
       .exact⟨rfl,λ_=>rfl⟩
       .grind [eP]
       .grind [eP]
       .cases decide ((0:Int)<(iG t q).length)
        .exact⟨rfl,λ_=>rfl⟩
        .grind [eP]
   .grind [eP]
  .grind [eP]
end kinds
variable {t:List It}{p:List UInt8}{is:Bool}{c:Cl}
theorem zJm(h:OkT t):aM t []=none:=by
 cases hg:aM t []
 .rfl
 .exact absurd rfl (h.getok (p:=[]) (by rw[hg];rfl)).1
theorem zD6(h:OkT t){fo:Bool}(hw:lK t fo (p,is,0))(hk:c.k=8∨c.k=12∨c.k=13∨c.k=14∨c.k=15):tN t c p is=(t,mJ t p is (nodeAt t p) c):=by
 have hd:=sI hw;cases is
 .grind [tN,mJ,CQ,wC]
 .have key:(nodeAt t p).k=3∨(bC t p=false)->nodeAt t p=(aM t p).getD nd0:=by
   intro h1;refine wI λhp=>?_;subst hp;rcases h1 with h1|h1<;>cases h1
  rcases hk with hk|hk|hk|hk|hk<;>simp only[tN,mJ,CQ,wC,hd,hk,Int.reduceBEq,Bool.or_self,Bool.or_false,Bool.or_true,Bool.true_and,Bool.false_and,Bool.not_true,Bool.false_eq_true,if_false,if_true]
  .by_cases hp:p=[]
   .subst hp;rw[zJm h];rfl
   .grind [wI]
  .grind
  .grind
theorem zDp{n:Nd}(h:(mJ t p is n c).e≠0):mJ t p is n c=anE (mJ t p is n c).e:=by
 unfold mJ CQ at h ⊢
 repeat' split at h
 all_goals first|exact absurd rfl h|(simp only[*,if_true,if_false,Bool.false_eq_true];rfl)
theorem zQl(h:OkT t)(c:Cl):doP t c=doR t c:=by
 unfold doP doR;cases hr:(decide (c.k<1) || decide (15<c.k))
 .simp only[Bool.or_eq_false_iff,decide_eq_false_iff_not] at hr;simp only[Bool.false_eq_true,if_false];have hw:=DZ h c.p (gU c.k);generalize cR t c.p (gU c.k)=r at *;obtain⟨p,is,e⟩:=r;simp only;by_cases he:e=0
  .subst he;simp only[beq_self_eq_true,Bool.not_true,Bool.false_eq_true,if_false];have hc:c.k=1∨c.k=2∨c.k=3∨c.k=4∨c.k=5∨c.k=6∨c.k=7∨c.k=9∨c.k=10∨c.k=11∨c.k=8∨c.k=12∨c.k=13∨c.k=14∨c.k=15:=by omega
   have asks:(c.k=8∨c.k=12∨c.k=13∨c.k=14∨c.k=15)->(if (!nH c.k)=true then (t,mJ t p is (nodeAt t p) c) else if ((cI t p is (nodeAt t p) c).2==0)=true then ((cI t p is (nodeAt t p) c).1,anE 0) else (t,anE (cI t p is (nodeAt t p) c).2))=if ((tN t c p is).2.e==0)=true then tN t c p is else (t,anE (tN t c p is).2.e):=by
    intro hk;have ht:nH c.k=false:=by rcases hk with hk|hk|hk|hk|hk<;>rw[hk]<;>rfl
    rw[ht,zD6 h hw hk];simp only[Bool.not_false,if_true];split
    .rfl
    .rename_i h0;rw[<- zDp (by simpa using h0)]
   have turns:nH c.k=true->yA (cI t p is (nodeAt t p) c) (tN t c p is)->(if (!nH c.k)=true then (t,mJ t p is (nodeAt t p) c) else if ((cI t p is (nodeAt t p) c).2==0)=true then ((cI t p is (nodeAt t p) c).1,anE 0) else (t,anE (cI t p is (nodeAt t p) c).2))=if ((tN t c p is).2.e==0)=true then tN t c p is else (t,anE (tN t c p is).2.e):=by
    intro ht hrel;rw[ht];simp only[Bool.not_true,Bool.false_eq_true,if_false];exact zNh hrel
   rcases hc with hk|hk|hk|hk|hk|hk|hk|hk|hk|hk|hk
   .refine turns (by rw[hk];rfl) ?_;have:=MB (p:=p) (is:=is) (c:=c) h 2 (by rw[hk];rfl) (by rw[hk];rfl) (by simp);simpa only[cI,tN,hk,Int.reduceBEq,Bool.true_or,Bool.or_self,Bool.false_eq_true,if_true] using this
   .refine turns (by rw[hk];rfl) ?_;have:=MB (p:=p) (is:=is) (c:=c) h 1 (by rw[hk];rfl) (by rw[hk];rfl) (by simp);simpa only[cI,tN,hk,Int.reduceBEq,Bool.true_or,Bool.or_true,Bool.or_self,Bool.false_eq_true,if_true,if_false] using this
   .exact turns (by rw[hk];rfl) (zGM h (by rw[hk] at hw;exact hw) hk)
   .exact turns (by rw[hk];rfl) (zGK h (by rw[hk] at hw;exact hw) hk)
   .exact turns (by rw[hk];rfl) (zCw hw hk)
   .exact turns (by rw[hk];rfl) (zGJ hw hk)
   .refine turns (by rw[hk];rfl) ?_;have:=MB (p:=p) (is:=is) (c:=c) h 3 (by rw[hk];rfl) (by rw[hk];rfl) (by simp);simpa only[cI,tN,hk,Int.reduceBEq,Bool.true_or,Bool.or_true,Bool.or_self,Bool.false_eq_true,if_true,if_false] using this
   .exact turns (by rw[hk];rfl) (zCv h hw hk)
   .exact turns (by rw[hk];rfl) (zGI h hw hk)
   .exact turns (by rw[hk];rfl) (zGL h hw hk)
   .exact asks hk
  .have:(e==0)=false:=by simpa using he
   rw[this];rfl
 .rfl
end
end Go.Dm
end
