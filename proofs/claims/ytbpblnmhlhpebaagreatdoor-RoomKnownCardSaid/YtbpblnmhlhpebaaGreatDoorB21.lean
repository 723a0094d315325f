/- Part 22 of the proof of roomKnown_card. No condition. -/
import Derived.Test.YtbpblnmhlhpebaaGreatDoorB20
set_option linter.all false
namespace Go.Dm
open Go
section
def fG (s:List UInt8):List (List UInt8) × Int :=
 if decide ((120:Int)<s.length) then ([],12) else if !(s.all fun b=>!((b.toNat:Int) == 0)) then ([],1)
 else if (GO s).all fun x=>!decide ((24:Int)<x.length) then ((GO s).filter fun x=>!(x == []),0) else ([],12)
def GC (d:List UInt8):Bool:=match d with
 | b::_=>(b.toNat:Int) == 47
 | []=>false
def lN (t:List It) (fo:Bool):Nat→List UInt8→List (List UInt8)→Nat→List UInt8 × Bool × Int
 | 0,_,_,_=>([],false,11)
 | _+1,c,[],_=>(c,true,0)
 | f+1,c,p::ps,h =>
  if p == [46] then lN t fo f c ps h else if p == [46,46] then lN t fo f (aR c) ps h
  else if !aY t c then ([],false,9) else if decide ((120:Int)<(jL c p).length) then ([],false,12)
  else match aQ t (jL c p) with
  | none=>if ps == [] then (jL c p,false,0) else ([],false,6)
  | some n=>if n.k == 3 && (!(ps == []) || fo) then (if decide (8≤h) then ([],false,11) else if (fG n.d).2 == 0 then lN t fo f (if GC n.d then [] else c) ((fG n.d).1++ps) (h+1) else ([],false,(fG n.d).2)) else lN t fo f (jL c p) ps h
def cM (t:List It) (s:List UInt8) (fo:Bool):List UInt8 × Bool × Int :=
 if (fG s).2 == 0 then lN t fo 1400 [] (fG s).1 0 else ([],false,(fG s).2)
structure Cl where
 k:Int
 p:List UInt8
 to':List UInt8
 m:Int
 t:Nat
 at':Int
 n:Int
 d:List UInt8
structure An where
 e:Int
 n:Nd
 d:List UInt8
 l:List (List UInt8)
def anE (e:Int):An:=⟨e,nd0,[],[]⟩
def gA (k:Int):Bool:=k == 3 || k == 4 || k == 10 || k == 11 || k == 12 || k == 14 || k == 15
def lH (k:Int):Bool:=decide (1≤k) && decide (k≤11) && !(k == 8)
def jG (m:Int):Bool:=decide (0≤m) && decide (m≤4095)
def nodeAt (t:List It) (p:List UInt8):Nd:=if p == [] then ⟨2,0,0,[]⟩ else (aQ t p).getD nd0
def wrD (had:List UInt8) (f:Nat) (b:List UInt8):List UInt8:=had.take f++b++had.drop (f+b.length)
def RL (is:Bool) (n:Nd):Bool:=is && n.k == 2
def zIi (kind:Int) (c:Cl):Nd:=⟨kind,if kind == 3 then 511 else c.m,dD c.t,if kind == 2 then [] else c.d⟩
def vE (t:List It) (p:List UInt8) (is:Bool) (kind:Int) (c:Cl):List It × Int :=
 if is then ([],7) else if !jG (zIi kind c).m then ([],1)
 else if kind == 3 && (decide ((c.d.length:Int)<1) || decide ((120:Int)<c.d.length) || !(c.d.all fun b=>!(b == 0))) then ([],1)
 else if kind == 1 && decide ((2000:Int)<c.d.length) then ([],16) else uK t p (zIi kind c)
def sQ (is:Bool) (n:Nd):Int:=if !is then 6 else if RL is n then 8 else 0
def wM (t:List It) (p:List UInt8) (n:Nd) (from':Int) (b:List UInt8):List It × Int :=
 if decide (from'<0) || decide ((n.d.length:Int)<from') then ([],1) else if decide (2000-from'<(b.length:Int)) then ([],16)
 else uK t p ⟨n.k,n.m,n.t,wrD n.d from'.toNat b⟩
def zT (t:List It) (p:List UInt8) (n:Nd) (k:Int):List It × Int :=
 if decide (k<0) || decide ((n.d.length:Int)<k) then ([],1) else uK t p ⟨n.k,n.m,n.t,n.d.take k.toNat⟩
def zN (t:List It) (p:List UInt8) (is:Bool) (n:Nd):List It × Int :=
 if p == [] then ([],1) else if !is then ([],6) else if !RL is n then ([],9) else if decide ((0:Int)<(gP t p).length) then ([],10) else (bZ t p,0)
def zG5 (t:List It) (p:List UInt8) (is:Bool) (n:Nd) (c:Cl):List It × Int :=
 if !is then ([],6) else if p == [] || c.k == 10 && !jG c.m then ([],1)
 else if c.k == 10 then uK t p ⟨n.k,c.m,n.t,n.d⟩ else uK t p ⟨n.k,n.m,dD c.t,n.d⟩
def VQ (d:Bool) (t:List It) (q:List UInt8) (is:Bool) (n:Nd):Int :=
 if !is then 0 else if d && !RL is n then 9 else if d && decide ((0:Int)<(gP t q).length) then 10 else if !d && RL is n then 8 else 0
def qG (t:List It) (p:List UInt8) (is:Bool) (n:Nd) (to':List UInt8):List It × Int :=
 if !is then ([],6) else if !((cM t to' false).2.2 == 0) then ([],(cM t to' false).2.2)
 else if p == [] || (cM t to' false).1 == [] then ([],1) else if p == (cM t to' false).1 then (t,0)
 else if aP p (cM t to' false).1 then ([],18)
 else if !(VQ (RL is n) t (cM t to' false).1 (cM t to' false).2.1 (nodeAt t (cM t to' false).1) == 0) then ([],VQ (RL is n) t (cM t to' false).1 (cM t to' false).2.1 (nodeAt t (cM t to' false).1))
 else nE (bZ t (cM t to' false).1) p (cM t to' false).1
def cC (t:List It) (p:List UInt8) (is:Bool) (n:Nd) (c:Cl):List It × Int :=
 if c.k == 1 then vE t p is 2 c else if c.k == 2 then vE t p is 1 c else if c.k == 7 then vE t p is 3 c else if c.k == 6 then zN t p is n
 else if c.k == 10 || c.k == 11 then zG5 t p is n c else if c.k == 9 then qG t p is n c.to'
 else if !(sQ is n == 0) then ([],sQ is n) else if c.k == 3 then wM t p n c.at' c.d else if c.k == 4 then zT t p n c.n else (bZ t p,0)
def xV (is:Bool) (n:Nd) (from' k:Int):An :=
 if !(sQ is n == 0) then anE (sQ is n) else if decide (from'<0) || decide (k<0) then anE 1 else ⟨0,nd0,(n.d.drop from'.toNat).take k.toNat,[]⟩
def kX (t:List It) (p:List UInt8) (is:Bool) (n:Nd) (c:Cl):An :=
 if c.k == 14 then xV is n c.at' c.n else if !is then anE 6 else if c.k == 8 && !(n.k == 3) then anE 1 else if c.k == 8 then ⟨0,nd0,n.d,[]⟩
 else if c.k == 15 && !RL is n then anE 9 else if c.k == 15 then ⟨0,nd0,[],gP t p⟩ else ⟨0,n,[],[]⟩
def doP (t:List It) (c:Cl):List It × An :=
 if decide (c.k<1) || decide (15<c.k) then (t,anE 1) else if !((cM t c.p (gA c.k)).2.2 == 0) then (t,anE (cM t c.p (gA c.k)).2.2)
 else if !lH c.k then (t,kX t (cM t c.p (gA c.k)).1 (cM t c.p (gA c.k)).2.1 (nodeAt t (cM t c.p (gA c.k)).1) c)
 else if (cC t (cM t c.p (gA c.k)).1 (cM t c.p (gA c.k)).2.1 (nodeAt t (cM t c.p (gA c.k)).1) c).2 == 0 then ((cC t (cM t c.p (gA c.k)).1 (cM t c.p (gA c.k)).2.1 (nodeAt t (cM t c.p (gA c.k)).1) c).1,anE 0)
 else (t,anE (cC t (cM t c.p (gA c.k)).1 (cM t c.p (gA c.k)).2.1 (nodeAt t (cM t c.p (gA c.k)).1) c).2)
def xP (t:List It) (c:Cl) (p:List UInt8) (is:Bool):List It × Int :=
 if is then (t,7)
 else if decide ((if c.k == 7 then 511 else c.m)<0) || decide ((4095:Int)<(if c.k == 7 then 511 else c.m)) || c.k == 7 && !nQ c.d then (t,1)
 else if c.k == 2 && decide ((2000:Int)<c.d.length) then (t,16)
 else uK t p ⟨if c.k == 2 then 1 else if c.k == 7 then 3 else 2,if c.k == 7 then 511 else c.m,dD c.t,if c.k == 2 || c.k == 7 then c.d else []⟩
def PS (t:List It) (p:List UInt8) (dir:Bool) (to':List UInt8):List It × Int :=
 if !((cM t to' false).2.2 == 0) then (t,(cM t to' false).2.2)
 else if p == [] || (cM t to' false).1 == [] then (t,1) else if p == (cM t to' false).1 then (t,0)
 else if aP p (cM t to' false).1 then (t,18)
 else if (cM t to' false).2.1 then
  (if dir && !aY t (cM t to' false).1 then (t,9) else if dir && decide ((0:Int)<(gP t (cM t to' false).1).length) then (t,10)
   else if !dir && aY t (cM t to' false).1 then (t,8) else nE (bZ t (cM t to' false).1) p (cM t to' false).1)
 else nE t p (cM t to' false).1
def qI (t:List It) (c:Cl) (p:List UInt8) (is:Bool):List It × An :=
 let n:=(aQ t p).getD nd0
 let dir:=is && aY t p
 if c.k == 1 || c.k == 2 || c.k == 7 then ((xP t c p is).1,anE (xP t c p is).2)
 else if c.k == 6 && p == [] then (t,anE 1) else if !is then (t,anE 6)
 else if c.k == 3 then (if dir then (t,anE 8) else if decide (c.at'<0) || decide ((n.d.length:Int)<c.at') then (t,anE 1) else if decide (2000-c.at'<(c.d.length:Int)) then (t,anE 16) else (uV t p ⟨n.k,n.m,n.t,wrD n.d c.at'.toNat c.d⟩,anE 0))
 else if c.k == 4 then (if dir then (t,anE 8) else if decide (c.n<0) || decide ((n.d.length:Int)<c.n) then (t,anE 1) else (uV t p ⟨n.k,n.m,n.t,n.d.take c.n.toNat⟩,anE 0))
 else if c.k == 5 then (if dir then (t,anE 8) else (bZ t p,anE 0))
 else if c.k == 6 then (if !dir then (t,anE 9) else if decide ((0:Int)<(gP t p).length) then (t,anE 10) else (bZ t p,anE 0))
 else if c.k == 8 then (if !(n.k == 3) then (t,anE 1) else (t,⟨0,nd0,n.d,[]⟩))
 else if c.k == 12 || c.k == 13 then (t,⟨0,nodeAt t p,[],[]⟩)
 else if c.k == 14 then (if dir then (t,anE 8) else if decide (c.at'<0) || decide (c.n<0) then (t,anE 1) else (t,⟨0,nd0,(n.d.drop c.at'.toNat).take c.n.toNat,[]⟩))
 else if c.k == 15 then (if !dir then (t,anE 9) else (t,⟨0,nd0,[],gP t p⟩))
 else if c.k == 10 then (if p == [] || decide (c.m<0) || decide (4095<c.m) then (t,anE 1) else (uV t p ⟨n.k,c.m,n.t,n.d⟩,anE 0))
 else if c.k == 11 then (if p == [] then (t,anE 1) else (uV t p ⟨n.k,n.m,dD c.t,n.d⟩,anE 0))
 else ((PS t p dir c.to').1,anE (PS t p dir c.to').2)
def doR (t:List It) (c:Cl):List It × An :=
 if decide (c.k<1) || decide (15<c.k) then (t,anE 1) else if !((cM t c.p (gA c.k)).2.2 == 0) then (t,anE (cM t c.p (gA c.k)).2.2)
 else if (qI t c (cM t c.p (gA c.k)).1 (cM t c.p (gA c.k)).2.1).2.e == 0 then qI t c (cM t c.p (gA c.k)).1 (cM t c.p (gA c.k)).2.1
 else (t,anE (qI t c (cM t c.p (gA c.k)).1 (cM t c.p (gA c.k)).2.1).2.e)
end
section
theorem zEm {c x:List UInt8} (h:x≠[]):jL c x≠[]:=by
 unfold jL;split
 ·exact h
 ·simp
theorem zB4 {t:List It} {b:List UInt8} (h:Par t) (hb:b≠[]):∀ (n:Nat) (q:List UInt8),q.length≤n→(aQ t q).isSome=true→aP b q=true→aY t b=true
 | 0,q,hl,_,hq=>by
  have h1:q=[]:=by simpa using hl
  subst h1
  have h2:=dW hq
  exact absurd (by simpa using h2) hb
 | n+1,q,hl,hs,hq=>by
  obtain ⟨m,hm⟩:=Option.isSome_iff_exists.1 hs
  obtain ⟨x,hx,rfl,_⟩:=cH hm
  have hdx:=h x hx
  rcases iK hb hq with h1|h1
  ·rw [← h1];exact hdx
  ·have h0:aR x.p≠[]:=by
    intro h0
    rw [h0] at h1
    have:=dW h1
    exact absurd (by simpa using this) hb
   obtain ⟨m,h2,_⟩:=cN h0 hdx
   have hlt:=rY h0
   exact zB4 h hb n _ (by omega) (by rw [h2];rfl) h1
theorem DC {t:List It} (h:OkT t) {p:List UInt8} (hp:p≠[]) (hd:aY t p=false):cA t p=t:=by
 unfold cA
 refine List.filter_eq_self.2 fun x hx=>?_
 cases hb:aP p x.p
 ·rfl
 ·have:=zB4 h.par hp _ x.p (Nat.le_refl _) (by rw [cW h.srt hx];rfl) hb
  rw [hd] at this;cases this
theorem oD {t:List It} {p:List UInt8} (hp:p≠[]):aY t p=match aQ t p with|some n=>n.k == 2|none=>false:=by
 unfold aY
 have:(p == [])=false:=by simpa using hp
 rw [this];rfl
theorem zHu {t:List It} {p:List UInt8} (h:aQ t p=none):qE t p=t:=by
 unfold qE
 refine List.filter_eq_self.2 fun x hx=>?_
 cases hb:x.p == p
 ·rfl
 ·exfalso
  have:∀ {t:List It},x∈t→aQ t p≠none:=by
   intro t ht
   induction t with
   | nil=>simp at ht
   | cons y r ih =>
    rw [aQ]
    split
    ·simp
    ·rcases List.mem_cons.1 ht with rfl|ht
     ·rename_i hn;exact absurd hb hn
     ·exact ih ht
  exact this hx h
theorem ZS {t:List It} (h:OkT t) {p:List UInt8} (hp:p≠[]) (hn:aQ t p=none):bZ t p=t:=by
 unfold bZ
 rw [DC h hp (by rw [oD hp,hn]),zHu hn]
def jW (t:List It) (fo:Bool) (r:List UInt8 × Bool × Int):Prop :=
 r.2.2=0→(r.2.1=true→r.1=[]∨∃ n,aQ t r.1=some n∧(fo=true→(n.k == 3)=false))∧(r.2.1=false→r.1≠[]∧aQ t r.1=none)
def InT (t:List It) (c:List UInt8):Prop:=c=[]∨∃ n,aQ t c=some n
theorem LJ {s:List UInt8}:∀ x∈(fG s).1,x≠[]:=by
 intro x hx
 unfold fG at hx
 split at hx
 ·simp at hx
 ·split at hx
  ·simp at hx
  ·split at hx
   ·have:=(List.mem_filter.1 hx).2
    intro h;subst h;simp at this
   ·simp at hx
theorem HJ {t:List It} (h:OkT t) {c:List UInt8} (hc:InT t c):aY t (aR c)=true:=by
 rcases hc with rfl|⟨n,hn⟩
 ·rfl
 ·obtain ⟨x,hx,rfl,_⟩:=cH hn
  exact h.par x hx
theorem zGR {t:List It} {c:List UInt8} (h:aY t c=true):c=[]∨∃ n,aQ t c=some n∧(n.k == 3)=false:=by
 by_cases hc:c=[]
 ·exact .inl hc
 ·obtain ⟨m,h1,h2⟩:=cN hc h
  exact .inr ⟨m,h1,by rw [h2];rfl⟩
theorem jQ {t:List It} (h:OkT t) {fo:Bool}:∀ (f:Nat) (c:List UInt8) (ps:List (List UInt8)) (hops:Nat),(c=[]∨∃ n,aQ t c=some n∧(fo=true→(n.k == 3)=false))→(∀ x∈ps,x≠[])→jW t fo (lN t fo f c ps hops)
 | 0,c,ps,hops,hc,hps=>by intro h0;simp [lN] at h0
 | f+1,c,[],hops,hc,hps=>by
  intro _
  simp only [lN]
  exact ⟨fun _=>hc,fun h=>by cases h⟩
 | f+1,c,p::ps,hops,hc,hps=>by
  have hpn:=hps p List.mem_cons_self
  have hps':∀ x∈ps,x≠[]:=fun x hx=>hps x (List.mem_cons_of_mem _ hx)
  have bad:∀ e:Int,e≠0→jW t fo ([],false,e):=fun e he h0=>absurd h0 he
  simp only [lN]
  split
  ·exact jQ h f c ps hops hc hps'
  ·split
   ·refine jQ h f _ ps hops ?_ hps'
    have hd:aY t (aR c)=true:=HJ h (hc.imp id fun ⟨n,hn,_⟩=>⟨n,hn⟩)
    exact (zGR hd).imp id fun ⟨n,h1,h2⟩=>⟨n,h1,fun _=>h2⟩
   ·split
    ·exact bad 9 (by decide)
    ·split
     ·exact bad 12 (by decide)
     ·rename_i hdir _
      have hdir:aY t c=true:=by simpa using hdir
      split
      ·rename_i hg
       split
       ·refine fun _=>⟨fun h=>?_,fun _=>⟨zEm hpn,hg⟩⟩
        cases h
       ·exact bad 6 (by decide)
      ·rename_i n hg
       split
       ·split
        ·exact bad 11 (by decide)
        ·split
         ·refine jQ h f _ _ _ ?_ ?_
          ·split
           ·exact .inl rfl
           ·exact (zGR hdir).imp id fun ⟨n,h1,h2⟩=>⟨n,h1,fun _=>h2⟩
          ·intro x hx
           rcases List.mem_append.1 hx with hx|hx
           ·exact LJ x hx
           ·exact hps' x hx
         ·rename_i he
          exact bad _ (by simpa using he)
       ·rename_i hlk
        refine jQ h f _ ps hops (.inr ⟨n,hg,fun hf=>?_⟩) hps'
        rw [hf,Bool.or_true,Bool.and_true] at hlk
        simpa using hlk
theorem zF {t:List It} (h:OkT t) (s:List UInt8) (fo:Bool):jW t fo (cM t s fo):=by
 unfold cM
 split
 ·exact jQ h _ _ _ _ (.inl rfl) LJ
 ·rename_i he
  exact fun h0=>absurd h0 (by simpa using he)
end
section
theorem LR (p:List UInt8) (n:Nd):∀ (t:List It) (d:Bool),(zX p n d t).length=(qE t p).length+(if d then 0 else 1)
 | [],d=>by cases d <;> rfl
 | x::r,d=>by
  have h:=LR p n r (d || !bL x.p p)
  simp only [zX,qE,List.length_append,List.filter_cons] at h ⊢
  cases d <;> cases hb:bL x.p p <;> cases hp:x.p == p <;> simp [hb] at h ⊢ <;> omega
theorem zIm {t:List It} {p:List UInt8} (h:(aQ t p).isSome=true):(qE t p).length<t.length:=by
 induction t with
 | nil=>cases h
 | cons x r ih =>
  rw [aQ] at h
  simp only [qE,List.filter_cons]
  split at h
  ·rename_i hp
   rw [hp]
   exact Nat.lt_succ_of_le (List.length_filter_le ..)
  ·rename_i hp
   have hp:(x.p == p)=false:=by simpa using hp
   rw [hp]
   simp only [Bool.not_false,if_true,List.length_cons]
   exact Nat.succ_lt_succ (ih h)
theorem GD {t:List It} (h:OkT t) {p:List UInt8} {n:Nd} (hs:(aQ t p).isSome=true) (hn:aT n=true) (hk:(n.k == 2)=false→aY t p=false):uK t p n=(uV t p n,0):=by
 obtain ⟨h1,h2,_⟩:=h.getok hs
 obtain ⟨m,hm⟩:=Option.isSome_iff_exists.1 hs
 have h3:aY t (aR p)=true:=HJ h (.inr ⟨m,hm⟩)
 have h4:(if n.k != 2 then cA t p else t)=t:=by
  split
  ·rename_i hne
   exact DC h h1 (hk (by simpa using hne))
  ·rfl
 have h5:(uV t p n).length≤120:=by
  have e:=LR p n t false
  have l:=zIm hs
  have:=h.len
  unfold uV
  rw [e];simp only [Bool.false_eq_true,if_false];omega
 have hb:(p == [])=false:=by simpa using h1
 unfold uK
 rw [h4,hb,h2,hn,h3,decide_eq_false (by omega)]
 rfl
theorem wK {n:Nd}:aT n=true↔(0≤n.m∧n.m≤4095∧CA n.t=true)∧(if n.k == 1 then decide ((n.d.length:Int)≤2000) else if n.k == 2 then (n.d.length:Int) == 0 else if n.k == 3 then nQ n.d else false)=true:=by
 unfold aT
 rw [Bool.and_eq_true]
 refine and_congr ?_ Iff.rfl
 simp only [Bool.not_eq_true',Bool.or_eq_false_iff,decide_eq_false_iff_not,Bool.not_eq_false']
 constructor
 ·rintro ⟨⟨a,b⟩,c⟩;exact ⟨by omega,by omega,c⟩
 ·rintro ⟨a,b,c⟩;exact ⟨⟨by omega,by omega⟩,c⟩
theorem YC (x:Nat):CA (dD x)=true:=by
 unfold CA
 rw [VG];simp
theorem VJ {n:Nd} {m:Int} (h:aT n=true) (hm:jG m=true):aT ⟨n.k,m,n.t,n.d⟩=true:=by
 rw [wK] at h ⊢
 unfold jG at hm
 simp only [Bool.and_eq_true,decide_eq_true_eq] at hm
 exact ⟨⟨hm.1,hm.2,h.1.2.2⟩,h.2⟩
theorem YX {n:Nd} {x:Nat} (h:aT n=true):aT ⟨n.k,n.m,dD x,n.d⟩=true:=by
 rw [wK] at h ⊢
 exact ⟨⟨h.1.1,h.1.2.1,YC x⟩,h.2⟩
theorem BT {n:Nd} {d:List UInt8} (h:aT n=true) (hk2:(n.k == 2)=false) (hk3:(n.k == 3)=false) (hd:d.length≤2000):aT ⟨n.k,n.m,n.t,d⟩=true:=by
 rw [wK] at h ⊢
 refine ⟨h.1,?_⟩
 have h2:=h.2
 simp only [hk2,hk3,Bool.false_eq_true,if_false] at h2 ⊢
 split
 ·exact decide_eq_true (by omega)
 ·rename_i hk1
  rw [if_neg hk1] at h2;cases h2
theorem zCw {had b:List UInt8} {f:Nat} (h1:had.length≤2000) (h2:f≤had.length) (h3:f+b.length≤2000):(wrD had f b).length≤2000:=by
 unfold wrD
 simp only [List.length_append,List.length_take,List.length_drop]
 omega
def vF (x:List It × Int) (y:List It × An):Prop:=y.2=anE x.2∧(x.2=0→y.1=x.1)
theorem cP {t:List It} {e:Int} (he:e≠0):vF ([],e) (t,anE e):=⟨rfl,fun h=>absurd h he⟩
theorem oK {u:List It}:vF (u,0) (u,anE 0):=⟨rfl,fun _=>rfl⟩
theorem zI5 {t:List It} {x:List It × Int} {y:List It × An} (h:vF x y):(if x.2 == 0 then (x.1,anE 0) else (t,anE x.2))=(if y.2.e == 0 then y else (t,anE y.2.e)):=by
 obtain ⟨y1,y2⟩:=y
 obtain ⟨h1,h2⟩:=h
 simp only at h1 h2
 subst h1
 by_cases h0:x.2=0
 ·have:(x.2 == 0)=true:=by simpa using h0
  rw [h2 h0,h0];rfl
 ·have h3:(x.2 == 0)=false:=by simpa using h0
  have h4:((anE x.2).e == 0)=false:=h3
  rw [h3]
  simp only [h4,Bool.false_eq_true,if_false]
  rfl
theorem lK {t:List It} {p:List UInt8} {is fo:Bool} (h:jW t fo (p,is,0)):(p=[]→is=true)∧(p≠[]→is=(aQ t p).isSome):=by
 obtain ⟨h1,h2⟩:=h rfl
 simp only at h1 h2
 constructor
 ·intro hp
  cases is
  ·exact absurd hp (h2 rfl).1
  ·rfl
 ·intro hp
  cases is
  ·rw [(h2 rfl).2];rfl
  ·rcases h1 rfl with h|⟨n,h,_⟩
   ·exact absurd h hp
   ·rw [h];rfl
theorem pL {t:List It} {p:List UInt8} {is fo:Bool} (h:jW t fo (p,is,0)):RL is (nodeAt t p)=(is && aY t p):=by
 unfold RL nodeAt
 by_cases hp:p=[]
 ·subst hp;rfl
 ·have hb:(p == [])=false:=by simpa using hp
  rw [hb,oD hp]
  simp only [Bool.false_eq_true,if_false]
  rw [(lK h).2 hp]
  cases aQ t p <;> rfl
theorem sU {t:List It} {p:List UInt8} (hp:p≠[]):nodeAt t p=(aQ t p).getD nd0:=by
 unfold nodeAt
 rw [if_neg (by simpa using hp)]
section kinds
variable {t:List It} {p:List UInt8} {is fo:Bool} {c:Cl}
theorem AX (h:OkT t) (hw:jW t true (p,true,0)) (hd:aY t p=false):p≠[]∧(aQ t p).isSome=true∧aT ((aQ t p).getD nd0)=true∧(((aQ t p).getD nd0).k == 2)=false∧(((aQ t p).getD nd0).k == 3)=false:=by
 have hp:p≠[]:=by intro hp;subst hp;cases hd
 have hs:(aQ t p).isSome=true:=((lK hw).2 hp).symm
 have hr:=h.getok hs
 obtain ⟨h1,_⟩:=hw rfl
 rcases h1 rfl with h1|⟨n,h1,h2⟩
 ·exact absurd h1 hp
 ·rw [oD hp] at hd
  simp only at h1
  rw [h1] at hd hr ⊢
  exact ⟨hp,rfl,hr.2.2,hd,h2 rfl⟩
theorem FU (h:OkT t) (kind:Int) (hk:(c.k == 7)=(kind == 3)) (hk1:(c.k == 2)=(kind == 1)) (hk2:kind=1∨kind=2∨kind=3):vF (vE t p is kind c) ((xP t c p is).1,anE (xP t c p is).2):=by
 unfold vE xP
 cases is
 ·simp only [Bool.false_eq_true,if_false]
  have hm:(zIi kind c).m=if c.k == 7 then 511 else c.m:=by unfold zIi;rw [hk]
  rw [hm]
  generalize hmm:(if c.k == 7 then (511:Int) else c.m)=m
  have hM:(decide (m<0) || decide ((4095:Int)<m)) = !jG m:=by
   unfold jG
   rw [Bool.not_and,← decide_not,← decide_not]
   congr 1 <;> exact decide_eq_decide.2 (by omega)
  have hT:(decide ((c.d.length:Int)<1) || decide ((120:Int)<c.d.length) || !(c.d.all fun b=>!(b == 0))) = !nQ c.d:=by
   unfold nQ
   rw [Bool.not_and,Bool.not_and,← decide_not,← decide_not,Bool.or_comm]
   have e:(c.d.all fun b=>!(b == 0))=(c.d.all fun b=>!((b.toNat:Int) == 0)):=by
    congr 1;funext b
    congr 1
    rw [Bool.eq_iff_iff,beq_iff_eq,beq_iff_eq]
    constructor
    ·rintro rfl;rfl
    ·intro h;exact UInt8.toNat_inj.1 (by have:(0:UInt8).toNat=0:=rfl;omega)
   rw [e]
   congr 1
   congr 1 <;> exact decide_eq_decide.2 (by omega)
  rw [hT,hM,hk,hk1]
  cases jG m
  ·simp only [Bool.not_false,Bool.true_or,if_true];exact cP (by decide)
  ·simp only [Bool.not_true,Bool.false_or,Bool.false_eq_true,if_false]
   split
   ·exact cP (by decide)
   ·split
    ·exact cP (by decide)
    ·have e:zIi kind c=⟨if kind == 1 then 1 else if kind == 3 then 3 else 2,m,dD c.t,if kind == 1 || kind == 3 then c.d else []⟩:=by
      unfold zIi
      rw [← hmm,hk]
      rcases hk2 with rfl|rfl|rfl <;> rfl
     rw [e]
     refine ⟨rfl,fun _=>rfl⟩
 ·simp only [if_true];exact cP (by decide)
theorem zDj (h:OkT t) (hw:jW t true (p,is,0)) (hk:c.k=3):vF (cC t p is (nodeAt t p) c) (qI t c p is):=by
 have hd:=pL hw
 simp only [cC,qI,sQ,hk,hd,Int.reduceBEq,Bool.or_self,Bool.false_and,Bool.false_eq_true,if_false,if_true]
 cases is
 ·exact cP (e:=6) (by decide)
 ·cases hdp:aY t p
  ·obtain ⟨hp,hs,hr,hk2,hk3⟩:=AX h hw hdp
   rw [sU hp]
   generalize (aQ t p).getD nd0=n at *
   have hl:=gZ hr
   simp only [wM,Bool.not_true,Bool.true_and,Bool.false_eq_true,if_false,beq_self_eq_true]
   split
   ·exact cP (by decide)
   ·split
    ·exact cP (by decide)
    ·rename_i h1 h2
     simp only [Bool.or_eq_true,decide_eq_true_eq,not_or] at h1 h2
     rw [GD h hs (BT hr hk2 hk3 (zCw hl (by omega) (by omega))) fun _=>hdp]
     exact oK
  ·exact cP (by decide)
theorem zAo (h:OkT t) (hw:jW t true (p,is,0)) (hk:c.k=4):vF (cC t p is (nodeAt t p) c) (qI t c p is):=by
 have hd:=pL hw
 simp only [cC,qI,sQ,hk,hd,Int.reduceBEq,Bool.or_self,Bool.false_and,Bool.false_eq_true,if_false,if_true]
 cases is
 ·exact cP (e:=6) (by decide)
 ·cases hdp:aY t p
  ·obtain ⟨hp,hs,hr,hk2,hk3⟩:=AX h hw hdp
   rw [sU hp]
   generalize (aQ t p).getD nd0=n at *
   have hl:=gZ hr
   simp only [zT,Bool.not_true,Bool.true_and,Bool.false_eq_true,if_false,beq_self_eq_true]
   split
   ·exact cP (by decide)
   ·have hle:(n.d.take c.n.toNat).length≤n.d.length:=List.length_take_le' ..
    rw [GD h hs (BT hr hk2 hk3 (by omega)) fun _=>hdp]
    exact oK
  ·exact cP (by decide)
theorem XS (hw:jW t fo (p,is,0)) (hk:c.k=5):vF (cC t p is (nodeAt t p) c) (qI t c p is):=by
 have hd:=pL hw
 simp only [cC,qI,sQ,hk,hd,Int.reduceBEq,Bool.or_self,Bool.false_and,Bool.false_eq_true,if_false,if_true]
 cases is
 ·exact cP (e:=6) (by decide)
 ·cases aY t p
  ·exact oK
  ·exact cP (by decide)
theorem zBF (hw:jW t fo (p,is,0)) (hk:c.k=6):vF (cC t p is (nodeAt t p) c) (qI t c p is):=by
 have hd:=pL hw
 simp only [cC,qI,zN,hk,hd,Int.reduceBEq,Bool.or_self,Bool.true_and,Bool.false_eq_true,if_false,if_true]
 cases p == []
 ·cases is
  ·exact cP (by decide)
  ·cases aY t p
   ·exact cP (by decide)
   ·simp only [Bool.not_true,Bool.and_self,Bool.false_eq_true,if_false]
    split
    ·exact cP (by decide)
    ·exact oK
 ·exact cP (by decide)
theorem zDK (h:OkT t) (hw:jW t fo (p,is,0)) (hk:c.k=10):vF (cC t p is (nodeAt t p) c) (qI t c p is):=by
 simp only [cC,qI,zG5,hk,Int.reduceBEq,Bool.or_self,Bool.or_false,Bool.true_and,Bool.false_and,Bool.false_eq_true,if_false,if_true]
 cases is
 ·exact cP (by decide)
 ·have hM:(p == [] || !jG c.m)=(p == [] || decide (c.m<0) || decide (4095<c.m)):=by
   unfold jG
   rw [Bool.not_and,← decide_not,← decide_not,Bool.or_assoc]
   congr 2 <;> exact decide_eq_decide.2 (by omega)
  rw [← hM]
  simp only [Bool.not_true,Bool.false_eq_true,if_false]
  split
  ·exact cP (by decide)
  ·rename_i h1
   simp only [Bool.or_eq_true,not_or,Bool.not_eq_true',Bool.not_eq_false,beq_iff_eq] at h1
   have hs:(aQ t p).isSome=true:=((lK hw).2 h1.1).symm
   rw [sU h1.1,GD h hs (VJ (h.getok hs).2.2 h1.2) fun hk2=>?_]
   ·exact oK
   ·rw [oD h1.1]
    obtain ⟨m,hm⟩:=Option.isSome_iff_exists.1 hs
    rw [hm] at hk2 ⊢;exact hk2
theorem zAS (h:OkT t) (hw:jW t fo (p,is,0)) (hk:c.k=11):vF (cC t p is (nodeAt t p) c) (qI t c p is):=by
 simp only [cC,qI,zG5,hk,Int.reduceBEq,Bool.or_self,Bool.or_false,Bool.or_true,Bool.false_and,Bool.false_eq_true,if_false,if_true]
 cases is
 ·exact cP (by decide)
 ·simp only [Bool.not_true,Bool.false_eq_true,if_false]
  split
  ·exact cP (by decide)
  ·rename_i h1
   simp only [beq_iff_eq] at h1
   have hs:(aQ t p).isSome=true:=((lK hw).2 h1).symm
   rw [sU h1,GD h hs (YX (h.getok hs).2.2) fun hk2=>?_]
   ·exact oK
   ·rw [oD h1]
    obtain ⟨m,hm⟩:=Option.isSome_iff_exists.1 hs
    rw [hm] at hk2 ⊢;exact hk2
theorem WH (h:OkT t) (hw:jW t fo (p,is,0)) (hk:c.k=9):vF (cC t p is (nodeAt t p) c) (qI t c p is):=by
 have hd:=pL hw
 have hw2:=zF h c.to' false
 simp only [cC,qI,qG,PS,hk,hd,Int.reduceBEq,Bool.or_self,Bool.false_and,Bool.false_eq_true,if_false,if_true]
 cases is
 ·exact cP (by decide)
 ·generalize cM t c.to' false=r at *
  obtain ⟨q,is2,e⟩:=r
  simp only [Bool.not_true,Bool.true_and,Bool.false_eq_true,if_false]
  by_cases he:e=0
  ·subst he
   simp only [beq_self_eq_true,Bool.not_true,Bool.false_eq_true,if_false]
   cases hpq:(p == [] || q == [])
   ·simp only [Bool.or_eq_false_iff] at hpq
    have hq:q≠[]:=by intro hq;rw [hq] at hpq;cases hpq.2
    simp only [Bool.false_eq_true,if_false]
    split
    ·exact ⟨rfl,fun _=>rfl⟩
    ·split
     ·exact cP (by decide)
     ·have hi2:=(lK hw2).2 hq
      cases is2
      ·have:aQ t q=none:=by
        cases hg:aQ t q
        ·rfl
        ·rw [hg] at hi2;cases hi2
       rw [ZS h hq this]
       exact ⟨rfl,fun _=>rfl⟩
      ·simp only [VQ,pL hw2,Bool.not_true,Bool.true_and,Bool.false_eq_true,if_false,if_true]
       cases aY t p <;> cases aY t q <;> simp only [Bool.not_true,Bool.not_false,Bool.true_and,Bool.false_and,Bool.false_eq_true,if_false,if_true,beq_self_eq_true,Int.reduceBEq]
       ·exact ⟨rfl,fun _=>rfl⟩
       ·exact cP (by decide)
       ·exact cP (by decide)
       ·cases decide ((0:Int)<(gP t q).length)
        ·exact ⟨rfl,fun _=>rfl⟩
        ·exact cP (by decide)
   ·exact cP (by decide)
  ·have:(e == 0)=false:=by simpa using he
   rw [this]
   exact cP he
end kinds
theorem zEA {t:List It} (h:OkT t):aQ t []=none:=by
 cases hg:aQ t []
 ·rfl
 ·exact absurd rfl (h.getok (p:=[]) (by rw [hg];rfl)).1
theorem zBl {t:List It} (h:OkT t) {p:List UInt8} {is:Bool} {fo:Bool} {c:Cl} (hw:jW t fo (p,is,0)) (hk:c.k=8∨c.k=12∨c.k=13∨c.k=14∨c.k=15):qI t c p is=(t,kX t p is (nodeAt t p) c):=by
 have hd:=pL hw
 cases is
 ·rcases hk with hk|hk|hk|hk|hk <;> simp only [qI,kX,xV,sQ,hd,hk,Int.reduceBEq,Bool.or_self,Bool.false_or,Bool.or_false,Bool.false_and,Bool.not_false,Bool.false_eq_true,if_false,if_true] <;> rfl
 ·have key:(nodeAt t p).k=3∨(aY t p=false)→nodeAt t p=(aQ t p).getD nd0:=by
   intro h1
   refine sU fun hp=>?_
   subst hp
   rcases h1 with h1|h1 <;> cases h1
  rcases hk with hk|hk|hk|hk|hk <;> simp only [qI,kX,xV,sQ,hd,hk,Int.reduceBEq,Bool.or_self,Bool.or_false,Bool.or_true,Bool.true_and,Bool.false_and,Bool.not_true,Bool.false_eq_true,if_false,if_true]
  ·by_cases hp:p=[]
   ·subst hp
    rw [zEA h];rfl
   ·rw [sU hp]
    split <;> rfl
  ·cases hdp:aY t p
   ·rw [key (.inr hdp)]
    simp only [Bool.false_eq_true,if_false,beq_self_eq_true,Bool.not_true]
    split <;> rfl
   ·rfl
  ·split <;> rfl
theorem zDp {t:List It} {p:List UInt8} {is:Bool} {n:Nd} {c:Cl} (h:(kX t p is n c).e≠0):kX t p is n c=anE (kX t p is n c).e:=by
 unfold kX xV at h ⊢
 repeat' split at h
 all_goals first|exact absurd rfl h|(simp only [*,if_true,if_false,Bool.false_eq_true];rfl)
theorem zLo {t:List It} (h:OkT t) (c:Cl):doP t c=doR t c:=by
 unfold doP doR
 cases hr:(decide (c.k<1) || decide (15<c.k))
 ·simp only [Bool.or_eq_false_iff,decide_eq_false_iff_not] at hr
  simp only [Bool.false_eq_true,if_false]
  have hw:=zF h c.p (gA c.k)
  generalize cM t c.p (gA c.k)=r at *
  obtain ⟨p,is,e⟩:=r
  simp only
  by_cases he:e=0
  ·subst he
   simp only [beq_self_eq_true,Bool.not_true,Bool.false_eq_true,if_false]
   have hc:c.k=1∨c.k=2∨c.k=3∨c.k=4∨c.k=5∨c.k=6∨c.k=7∨c.k=9∨c.k=10∨c.k=11∨c.k=8∨c.k=12∨c.k=13∨c.k=14∨c.k=15:=by omega
   have asks:(c.k=8∨c.k=12∨c.k=13∨c.k=14∨c.k=15)→(if (!lH c.k)=true then (t,kX t p is (nodeAt t p) c) else if ((cC t p is (nodeAt t p) c).2 == 0)=true then ((cC t p is (nodeAt t p) c).1,anE 0) else (t,anE (cC t p is (nodeAt t p) c).2))=if ((qI t c p is).2.e == 0)=true then qI t c p is else (t,anE (qI t c p is).2.e):=by
    intro hk
    have ht:lH c.k=false:=by rcases hk with hk|hk|hk|hk|hk <;> rw [hk] <;> rfl
    rw [ht,zBl h hw hk]
    simp only [Bool.not_false,if_true]
    split
    ·rfl
    ·rename_i h0
     rw [← zDp (by simpa using h0)]
   have turns:lH c.k=true→vF (cC t p is (nodeAt t p) c) (qI t c p is)→(if (!lH c.k)=true then (t,kX t p is (nodeAt t p) c) else if ((cC t p is (nodeAt t p) c).2 == 0)=true then ((cC t p is (nodeAt t p) c).1,anE 0) else (t,anE (cC t p is (nodeAt t p) c).2))=if ((qI t c p is).2.e == 0)=true then qI t c p is else (t,anE (qI t c p is).2.e):=by
    intro ht hrel
    rw [ht]
    simp only [Bool.not_true,Bool.false_eq_true,if_false]
    exact zI5 hrel
   rcases hc with hk|hk|hk|hk|hk|hk|hk|hk|hk|hk|hk
   ·refine turns (by rw [hk];rfl) ?_
    have:=FU (p:=p) (is:=is) (c:=c) h 2 (by rw [hk];rfl) (by rw [hk];rfl) (by simp)
    simpa only [cC,qI,hk,Int.reduceBEq,Bool.true_or,Bool.or_self,Bool.false_eq_true,if_true] using this
   ·refine turns (by rw [hk];rfl) ?_
    have:=FU (p:=p) (is:=is) (c:=c) h 1 (by rw [hk];rfl) (by rw [hk];rfl) (by simp)
    simpa only [cC,qI,hk,Int.reduceBEq,Bool.true_or,Bool.or_true,Bool.or_self,Bool.false_eq_true,if_true,if_false] using this
   ·exact turns (by rw [hk];rfl) (zDj h (by rw [hk] at hw;exact hw) hk)
   ·exact turns (by rw [hk];rfl) (zAo h (by rw [hk] at hw;exact hw) hk)
   ·exact turns (by rw [hk];rfl) (XS hw hk)
   ·exact turns (by rw [hk];rfl) (zBF hw hk)
   ·refine turns (by rw [hk];rfl) ?_
    have:=FU (p:=p) (is:=is) (c:=c) h 3 (by rw [hk];rfl) (by rw [hk];rfl) (by simp)
    simpa only [cC,qI,hk,Int.reduceBEq,Bool.true_or,Bool.or_true,Bool.or_self,Bool.false_eq_true,if_true,if_false] using this
   ·exact turns (by rw [hk];rfl) (WH h hw hk)
   ·exact turns (by rw [hk];rfl) (zDK h hw hk)
   ·exact turns (by rw [hk];rfl) (zAS h hw hk)
   ·exact asks hk
  ·have:(e == 0)=false:=by simpa using he
   rw [this];rfl
 ·rfl
end
end Go.Dm
