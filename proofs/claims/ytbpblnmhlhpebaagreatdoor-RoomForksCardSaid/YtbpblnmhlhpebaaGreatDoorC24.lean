/- Part 25 of the proof of roomForks_card, set without needless blanks. No condition. -/
import Derived.Test.YtbpblnmhlhpebaaGreatDoorC23
set_option linter.unusedSimpArgs false
set_option linter.unusedVariables false
namespace Go.Dm
open Go
section
def eU (s:List UInt8):List (List UInt8) × Int :=
 if decide ((120:Int)<s.length) then ([],12) else if !(s.all fun b=>!((b.toNat:Int) == 0)) then ([],1)
 else if (oL s).all fun x=>!decide ((24:Int)<x.length) then ((oL s).filter fun x=>!(x == []),0) else ([],12)
def FN (d:List UInt8):Bool:=match d with
 | b::_=>(b.toNat:Int) == 47
 | []=>false
def mC (t:List It) (fo:Bool):Nat→List UInt8→List (List UInt8)→Nat→List UInt8 × Bool × Int
 | 0,_,_,_=>([],false,11)
 | _+1,c,[],_=>(c,true,0)
 | f+1,c,p::ps,h =>
  if p == [46] then mC t fo f c ps h else if p == [46,46] then mC t fo f (aS c) ps h
  else if !aW t c then ([],false,9) else if decide ((120:Int)<(iS c p).length) then ([],false,12)
  else match aR t (iS c p) with
  | none=>if ps == [] then (iS c p,false,0) else ([],false,6)
  | some n=>if n.k == 3 && (!(ps == []) || fo) then (if decide (8≤h) then ([],false,11) else if (eU n.d).2 == 0 then mC t fo f (if FN n.d then [] else c) ((eU n.d).1++ps) (h+1) else ([],false,(eU n.d).2)) else mC t fo f (iS c p) ps h
def cJ (t:List It) (s:List UInt8) (fo:Bool):List UInt8 × Bool × Int :=
 if (eU s).2 == 0 then mC t fo 1400 [] (eU s).1 0 else ([],false,(eU s).2)
structure Cl where
 k:Int
 p:List UInt8
 to':List UInt8
 m:Int
 t:Nat
 at':Int
 n:Int
 d:List UInt8
structure An where
 e:Int
 n:Nd
 d:List UInt8
 l:List (List UInt8)
def anE (e:Int):An:=⟨e,nd0,[],[]⟩
def fN (k:Int):Bool:=k == 3 || k == 4 || k == 10 || k == 11 || k == 12 || k == 14 || k == 15
def lF (k:Int):Bool:=decide (1≤k) && decide (k≤11) && !(k == 8)
def iL (m:Int):Bool:=decide (0≤m) && decide (m≤4095)
def nodeAt (t:List It) (p:List UInt8):Nd:=if p == [] then ⟨2,0,0,[]⟩ else (aR t p).getD nd0
def wrD (had:List UInt8) (f:Nat) (b:List UInt8):List UInt8:=had.take f++b++had.drop (f+b.length)
def TF (is:Bool) (n:Nd):Bool:=is && n.k == 2
def zI1 (kind:Int) (c:Cl):Nd:=⟨kind,if kind == 3 then 511 else c.m,dA c.t,if kind == 2 then [] else c.d⟩
def vC (t:List It) (p:List UInt8) (is:Bool) (kind:Int) (c:Cl):List It × Int :=
 if is then ([],7) else if !iL (zI1 kind c).m then ([],1)
 else if kind == 3 && (decide ((c.d.length:Int)<1) || decide ((120:Int)<c.d.length) || !(c.d.all fun b=>!(b == 0))) then ([],1)
 else if kind == 1 && decide ((2000:Int)<c.d.length) then ([],16) else jQ t p (zI1 kind c)
def tH (is:Bool) (n:Nd):Int:=if !is then 6 else if TF is n then 8 else 0
def zU (t:List It) (p:List UInt8) (n:Nd) (from':Int) (b:List UInt8):List It × Int :=
 if decide (from'<0) || decide ((n.d.length:Int)<from') then ([],1) else if decide (2000-from'<(b.length:Int)) then ([],16)
 else jQ t p ⟨n.k,n.m,n.t,wrD n.d from'.toNat b⟩
def zS (t:List It) (p:List UInt8) (n:Nd) (k:Int):List It × Int :=
 if decide (k<0) || decide ((n.d.length:Int)<k) then ([],1) else jQ t p ⟨n.k,n.m,n.t,n.d.take k.toNat⟩
def zJ (t:List It) (p:List UInt8) (is:Bool) (n:Nd):List It × Int :=
 if p == [] then ([],1) else if !is then ([],6) else if !TF is n then ([],9) else if decide ((0:Int)<(fX t p).length) then ([],10) else (bN t p,0)
def zHN (t:List It) (p:List UInt8) (is:Bool) (n:Nd) (c:Cl):List It × Int :=
 if !is then ([],6) else if p == [] || c.k == 10 && !iL c.m then ([],1)
 else if c.k == 10 then jQ t p ⟨n.k,c.m,n.t,n.d⟩ else jQ t p ⟨n.k,n.m,dA c.t,n.d⟩
def XF (d:Bool) (t:List It) (q:List UInt8) (is:Bool) (n:Nd):Int :=
 if !is then 0 else if d && !TF is n then 9 else if d && decide ((0:Int)<(fX t q).length) then 10 else if !d && TF is n then 8 else 0
def pM (t:List It) (p:List UInt8) (is:Bool) (n:Nd) (to':List UInt8):List It × Int :=
 if !is then ([],6) else if !((cJ t to' false).2.2 == 0) then ([],(cJ t to' false).2.2)
 else if p == [] || (cJ t to' false).1 == [] then ([],1) else if p == (cJ t to' false).1 then (t,0)
 else if aO p (cJ t to' false).1 then ([],18)
 else if !(XF (TF is n) t (cJ t to' false).1 (cJ t to' false).2.1 (nodeAt t (cJ t to' false).1) == 0) then ([],XF (TF is n) t (cJ t to' false).1 (cJ t to' false).2.1 (nodeAt t (cJ t to' false).1))
 else hD (bN t (cJ t to' false).1) p (cJ t to' false).1
def bY (t:List It) (p:List UInt8) (is:Bool) (n:Nd) (c:Cl):List It × Int :=
 if c.k == 1 then vC t p is 2 c else if c.k == 2 then vC t p is 1 c else if c.k == 7 then vC t p is 3 c else if c.k == 6 then zJ t p is n
 else if c.k == 10 || c.k == 11 then zHN t p is n c else if c.k == 9 then pM t p is n c.to'
 else if !(tH is n == 0) then ([],tH is n) else if c.k == 3 then zU t p n c.at' c.d else if c.k == 4 then zS t p n c.n else (bN t p,0)
def yH (is:Bool) (n:Nd) (from' k:Int):An :=
 if !(tH is n == 0) then anE (tH is n) else if decide (from'<0) || decide (k<0) then anE 1 else ⟨0,nd0,(n.d.drop from'.toNat).take k.toNat,[]⟩
def kH (t:List It) (p:List UInt8) (is:Bool) (n:Nd) (c:Cl):An :=
 if c.k == 14 then yH is n c.at' c.n else if !is then anE 6 else if c.k == 8 && !(n.k == 3) then anE 1 else if c.k == 8 then ⟨0,nd0,n.d,[]⟩
 else if c.k == 15 && !TF is n then anE 9 else if c.k == 15 then ⟨0,nd0,[],fX t p⟩ else ⟨0,n,[],[]⟩
def doP (t:List It) (c:Cl):List It × An :=
 if decide (c.k<1) || decide (15<c.k) then (t,anE 1) else if !((cJ t c.p (fN c.k)).2.2 == 0) then (t,anE (cJ t c.p (fN c.k)).2.2)
 else if !lF c.k then (t,kH t (cJ t c.p (fN c.k)).1 (cJ t c.p (fN c.k)).2.1 (nodeAt t (cJ t c.p (fN c.k)).1) c)
 else if (bY t (cJ t c.p (fN c.k)).1 (cJ t c.p (fN c.k)).2.1 (nodeAt t (cJ t c.p (fN c.k)).1) c).2 == 0 then ((bY t (cJ t c.p (fN c.k)).1 (cJ t c.p (fN c.k)).2.1 (nodeAt t (cJ t c.p (fN c.k)).1) c).1,anE 0)
 else (t,anE (bY t (cJ t c.p (fN c.k)).1 (cJ t c.p (fN c.k)).2.1 (nodeAt t (cJ t c.p (fN c.k)).1) c).2)
def yU (t:List It) (c:Cl) (p:List UInt8) (is:Bool):List It × Int :=
 if is then (t,7)
 else if decide ((if c.k == 7 then 511 else c.m)<0) || decide ((4095:Int)<(if c.k == 7 then 511 else c.m)) || c.k == 7 && !iZ c.d then (t,1)
 else if c.k == 2 && decide ((2000:Int)<c.d.length) then (t,16)
 else jQ t p ⟨if c.k == 2 then 1 else if c.k == 7 then 3 else 2,if c.k == 7 then 511 else c.m,dA c.t,if c.k == 2 || c.k == 7 then c.d else []⟩
def SA (t:List It) (p:List UInt8) (dir:Bool) (to':List UInt8):List It × Int :=
 if !((cJ t to' false).2.2 == 0) then (t,(cJ t to' false).2.2)
 else if p == [] || (cJ t to' false).1 == [] then (t,1) else if p == (cJ t to' false).1 then (t,0)
 else if aO p (cJ t to' false).1 then (t,18)
 else if (cJ t to' false).2.1 then
  (if dir && !aW t (cJ t to' false).1 then (t,9) else if dir && decide ((0:Int)<(fX t (cJ t to' false).1).length) then (t,10)
   else if !dir && aW t (cJ t to' false).1 then (t,8) else hD (bN t (cJ t to' false).1) p (cJ t to' false).1)
 else hD t p (cJ t to' false).1
def qD (t:List It) (c:Cl) (p:List UInt8) (is:Bool):List It × An :=
 let n:=(aR t p).getD nd0
 let dir:=is && aW t p
 if c.k == 1 || c.k == 2 || c.k == 7 then ((yU t c p is).1,anE (yU t c p is).2)
 else if c.k == 6 && p == [] then (t,anE 1) else if !is then (t,anE 6)
 else if c.k == 3 then (if dir then (t,anE 8) else if decide (c.at'<0) || decide ((n.d.length:Int)<c.at') then (t,anE 1) else if decide (2000-c.at'<(c.d.length:Int)) then (t,anE 16) else (qE t p ⟨n.k,n.m,n.t,wrD n.d c.at'.toNat c.d⟩,anE 0))
 else if c.k == 4 then (if dir then (t,anE 8) else if decide (c.n<0) || decide ((n.d.length:Int)<c.n) then (t,anE 1) else (qE t p ⟨n.k,n.m,n.t,n.d.take c.n.toNat⟩,anE 0))
 else if c.k == 5 then (if dir then (t,anE 8) else (bN t p,anE 0))
 else if c.k == 6 then (if !dir then (t,anE 9) else if decide ((0:Int)<(fX t p).length) then (t,anE 10) else (bN t p,anE 0))
 else if c.k == 8 then (if !(n.k == 3) then (t,anE 1) else (t,⟨0,nd0,n.d,[]⟩))
 else if c.k == 12 || c.k == 13 then (t,⟨0,nodeAt t p,[],[]⟩)
 else if c.k == 14 then (if dir then (t,anE 8) else if decide (c.at'<0) || decide (c.n<0) then (t,anE 1) else (t,⟨0,nd0,(n.d.drop c.at'.toNat).take c.n.toNat,[]⟩))
 else if c.k == 15 then (if !dir then (t,anE 9) else (t,⟨0,nd0,[],fX t p⟩))
 else if c.k == 10 then (if p == [] || decide (c.m<0) || decide (4095<c.m) then (t,anE 1) else (qE t p ⟨n.k,c.m,n.t,n.d⟩,anE 0))
 else if c.k == 11 then (if p == [] then (t,anE 1) else (qE t p ⟨n.k,n.m,dA c.t,n.d⟩,anE 0))
 else ((SA t p dir c.to').1,anE (SA t p dir c.to').2)
def doR (t:List It) (c:Cl):List It × An :=
 if decide (c.k<1) || decide (15<c.k) then (t,anE 1) else if !((cJ t c.p (fN c.k)).2.2 == 0) then (t,anE (cJ t c.p (fN c.k)).2.2)
 else if (qD t c (cJ t c.p (fN c.k)).1 (cJ t c.p (fN c.k)).2.1).2.e == 0 then qD t c (cJ t c.p (fN c.k)).1 (cJ t c.p (fN c.k)).2.1
 else (t,anE (qD t c (cJ t c.p (fN c.k)).1 (cJ t c.p (fN c.k)).2.1).2.e)
end
section
theorem zE1 {c x:List UInt8} (h:x≠[]):iS c x≠[]:=by
 unfold iS;split
 ·exact h
 ·simp
theorem zDq {t:List It} {b:List UInt8} (h:Par t) (hb:b≠[]):∀ (n:Nat) (q:List UInt8),q.length≤n→(aR t q).isSome=true→aO b q=true→aW t b=true
 | 0,q,hl,_,hq=>by
  have h1:q=[]:=by simpa using hl
  subst h1
  have h2:=dG hq
  exact absurd (by simpa using h2) hb
 | n+1,q,hl,hs,hq=>by
  obtain ⟨m,hm⟩:=Option.isSome_iff_exists.1 hs
  obtain ⟨x,hx,rfl,_⟩:=bZ hm
  have hdx:=h x hx
  rcases gY hb hq with h1|h1
  ·rw [← h1];exact hdx
  ·have h0:aS x.p≠[]:=by
    intro h0
    rw [h0] at h1
    have:=dG h1
    exact absurd (by simpa using this) hb
   obtain ⟨m,h2,_⟩:=cO h0 hdx
   have hlt:=sD h0
   exact zDq h hb n _ (by omega) (by rw [h2];rfl) h1
theorem CJ {t:List It} (h:OkT t) {p:List UInt8} (hp:p≠[]) (hd:aW t p=false):bD t p=t:=by
 unfold bD
 refine List.filter_eq_self.2 fun x hx=>?_
 cases hb:aO p x.p
 ·rfl
 ·have:=zDq h.par hp _ x.p (Nat.le_refl _) (by rw [cL h.srt hx];rfl) hb
  rw [hd] at this;cases this
theorem mR {t:List It} {p:List UInt8} (hp:p≠[]):aW t p=match aR t p with|some n=>n.k == 2|none=>false:=by
 unfold aW
 have:(p == [])=false:=by simpa using hp
 rw [this];rfl
theorem zJA {t:List It} {p:List UInt8} (h:aR t p=none):lB t p=t:=by
 unfold lB
 refine List.filter_eq_self.2 fun x hx=>?_
 cases hb:x.p == p
 ·rfl
 ·exfalso
  have:∀ {t:List It},x∈t→aR t p≠none:=by
   intro t ht
   induction t with
   | nil=>simp at ht
   | cons y r ih =>
    rw [aR]
    split
    ·simp
    ·rcases List.mem_cons.1 ht with rfl|ht
     ·rename_i hn;exact absurd hb hn
     ·exact ih ht
  exact this hx h
theorem zD3 {t:List It} (h:OkT t) {p:List UInt8} (hp:p≠[]) (hn:aR t p=none):bN t p=t:=by
 unfold bN
 rw [CJ h hp (by rw [mR hp,hn]),zJA hn]
def jL (t:List It) (fo:Bool) (r:List UInt8 × Bool × Int):Prop :=
 r.2.2=0→(r.2.1=true→r.1=[]∨∃ n,aR t r.1=some n∧(fo=true→(n.k == 3)=false))∧(r.2.1=false→r.1≠[]∧aR t r.1=none)
def InT (t:List It) (c:List UInt8):Prop:=c=[]∨∃ n,aR t c=some n
theorem ND {s:List UInt8}:∀ x∈(eU s).1,x≠[]:=by
 intro x hx
 unfold eU at hx
 split at hx
 ·simp at hx
 ·split at hx
  ·simp at hx
  ·split at hx
   ·have:=(List.mem_filter.1 hx).2
    intro h;subst h;simp at this
   ·simp at hx
theorem JU {t:List It} (h:OkT t) {c:List UInt8} (hc:InT t c):aW t (aS c)=true:=by
 rcases hc with rfl|⟨n,hn⟩
 ·rfl
 ·obtain ⟨x,hx,rfl,_⟩:=bZ hn
  exact h.par x hx
theorem zHw {t:List It} {c:List UInt8} (h:aW t c=true):c=[]∨∃ n,aR t c=some n∧(n.k == 3)=false:=by
 by_cases hc:c=[]
 ·exact .inl hc
 ·obtain ⟨m,h1,h2⟩:=cO hc h
  exact .inr ⟨m,h1,by rw [h2];rfl⟩
theorem iH {t:List It} (h:OkT t) {fo:Bool}:∀ (f:Nat) (c:List UInt8) (ps:List (List UInt8)) (hops:Nat),(c=[]∨∃ n,aR t c=some n∧(fo=true→(n.k == 3)=false))→(∀ x∈ps,x≠[])→jL t fo (mC t fo f c ps hops)
 | 0,c,ps,hops,hc,hps=>by intro h0;simp [mC] at h0
 | f+1,c,[],hops,hc,hps=>by
  intro _
  simp only [mC]
  exact ⟨fun _=>hc,fun h=>by cases h⟩
 | f+1,c,p::ps,hops,hc,hps=>by
  have hpn:=hps p List.mem_cons_self
  have hps':∀ x∈ps,x≠[]:=fun x hx=>hps x (List.mem_cons_of_mem _ hx)
  have bad:∀ e:Int,e≠0→jL t fo ([],false,e):=fun e he h0=>absurd h0 he
  simp only [mC]
  split
  ·exact iH h f c ps hops hc hps'
  ·split
   ·refine iH h f _ ps hops ?_ hps'
    have hd:aW t (aS c)=true:=JU h (hc.imp id fun ⟨n,hn,_⟩=>⟨n,hn⟩)
    exact (zHw hd).imp id fun ⟨n,h1,h2⟩=>⟨n,h1,fun _=>h2⟩
   ·split
    ·exact bad 9 (by decide)
    ·split
     ·exact bad 12 (by decide)
     ·rename_i hdir _
      have hdir:aW t c=true:=by simpa using hdir
      split
      ·rename_i hg
       split
       ·refine fun _=>⟨fun h=>?_,fun _=>⟨zE1 hpn,hg⟩⟩
        cases h
       ·exact bad 6 (by decide)
      ·rename_i n hg
       split
       ·split
        ·exact bad 11 (by decide)
        ·split
         ·refine iH h f _ _ _ ?_ ?_
          ·split
           ·exact .inl rfl
           ·exact (zHw hdir).imp id fun ⟨n,h1,h2⟩=>⟨n,h1,fun _=>h2⟩
          ·intro x hx
           rcases List.mem_append.1 hx with hx|hx
           ·exact ND x hx
           ·exact hps' x hx
         ·rename_i he
          exact bad _ (by simpa using he)
       ·rename_i hlk
        refine iH h f _ ps hops (.inr ⟨n,hg,fun hf=>?_⟩) hps'
        rw [hf,Bool.or_true,Bool.and_true] at hlk
        simpa using hlk
theorem wW {t:List It} (h:OkT t) (s:List UInt8) (fo:Bool):jL t fo (cJ t s fo):=by
 unfold cJ
 split
 ·exact iH h _ _ _ _ (.inl rfl) ND
 ·rename_i he
  exact fun h0=>absurd h0 (by simpa using he)
end
section
theorem MB (p:List UInt8) (n:Nd):∀ (t:List It) (d:Bool),(uC p n d t).length=(lB t p).length+(if d then 0 else 1)
 | [],d=>by cases d <;> rfl
 | x::r,d=>by
  have h:=MB p n r (d || !bO x.p p)
  simp only [uC,lB,List.length_append,List.filter_cons] at h ⊢
  cases d <;> cases hb:bO x.p p <;> cases hp:x.p == p <;> simp [hb] at h ⊢ <;> omega
theorem zIj {t:List It} {p:List UInt8} (h:(aR t p).isSome=true):(lB t p).length<t.length:=by
 induction t with
 | nil=>cases h
 | cons x r ih =>
  rw [aR] at h
  simp only [lB,List.filter_cons]
  split at h
  ·rename_i hp
   rw [hp]
   exact Nat.lt_succ_of_le (List.length_filter_le ..)
  ·rename_i hp
   have hp:(x.p == p)=false:=by simpa using hp
   rw [hp]
   simp only [Bool.not_false,if_true,List.length_cons]
   exact Nat.succ_lt_succ (ih h)
theorem FX {t:List It} (h:OkT t) {p:List UInt8} {n:Nd} (hs:(aR t p).isSome=true) (hn:aU n=true) (hk:(n.k == 2)=false→aW t p=false):jQ t p n=(qE t p n,0):=by
 obtain ⟨h1,h2,_⟩:=h.getok hs
 obtain ⟨m,hm⟩:=Option.isSome_iff_exists.1 hs
 have h3:aW t (aS p)=true:=JU h (.inr ⟨m,hm⟩)
 have h4:(if n.k != 2 then bD t p else t)=t:=by
  split
  ·rename_i hne
   exact CJ h h1 (hk (by simpa using hne))
  ·rfl
 have h5:(qE t p n).length≤120:=by
  have e:=MB p n t false
  have l:=zIj hs
  have:=h.len
  unfold qE
  rw [e];simp only [Bool.false_eq_true,if_false];omega
 have hb:(p == [])=false:=by simpa using h1
 unfold jQ
 rw [h4,hb,h2,hn,h3,decide_eq_false (by omega)]
 rfl
theorem xO {n:Nd}:aU n=true↔(0≤n.m∧n.m≤4095∧zL n.t=true)∧(if n.k == 1 then decide ((n.d.length:Int)≤2000) else if n.k == 2 then (n.d.length:Int) == 0 else if n.k == 3 then iZ n.d else false)=true:=by
 unfold aU
 rw [Bool.and_eq_true]
 refine and_congr ?_ Iff.rfl
 simp only [Bool.not_eq_true',Bool.or_eq_false_iff,decide_eq_false_iff_not,Bool.not_eq_false']
 constructor
 ·rintro ⟨⟨a,b⟩,c⟩;exact ⟨by omega,by omega,c⟩
 ·rintro ⟨a,b,c⟩;exact ⟨⟨by omega,by omega⟩,c⟩
theorem ZN (x:Nat):zL (dA x)=true:=by
 unfold zL
 rw [XO];simp
theorem YK {n:Nd} {m:Int} (h:aU n=true) (hm:iL m=true):aU ⟨n.k,m,n.t,n.d⟩=true:=by
 rw [xO] at h ⊢
 unfold iL at hm
 simp only [Bool.and_eq_true,decide_eq_true_eq] at hm
 exact ⟨⟨hm.1,hm.2,h.1.2.2⟩,h.2⟩
theorem XJ {n:Nd} {x:Nat} (h:aU n=true):aU ⟨n.k,n.m,dA x,n.d⟩=true:=by
 rw [xO] at h ⊢
 exact ⟨⟨h.1.1,h.1.2.1,ZN x⟩,h.2⟩
theorem BD {n:Nd} {d:List UInt8} (h:aU n=true) (hk2:(n.k == 2)=false) (hk3:(n.k == 3)=false) (hd:d.length≤2000):aU ⟨n.k,n.m,n.t,d⟩=true:=by
 rw [xO] at h ⊢
 refine ⟨h.1,?_⟩
 have h2:=h.2
 simp only [hk2,hk3,Bool.false_eq_true,if_false] at h2 ⊢
 split
 ·exact decide_eq_true (by omega)
 ·rename_i hk1
  rw [if_neg hk1] at h2;cases h2
theorem zDG {had b:List UInt8} {f:Nat} (h1:had.length≤2000) (h2:f≤had.length) (h3:f+b.length≤2000):(wrD had f b).length≤2000:=by
 unfold wrD
 simp only [List.length_append,List.length_take,List.length_drop]
 omega
def vB (x:List It × Int) (y:List It × An):Prop:=y.2=anE x.2∧(x.2=0→y.1=x.1)
theorem cS {t:List It} {e:Int} (he:e≠0):vB ([],e) (t,anE e):=⟨rfl,fun h=>absurd h he⟩
theorem nZ {u:List It}:vB (u,0) (u,anE 0):=⟨rfl,fun _=>rfl⟩
theorem zHW {t:List It} {x:List It × Int} {y:List It × An} (h:vB x y):(if x.2 == 0 then (x.1,anE 0) else (t,anE x.2))=(if y.2.e == 0 then y else (t,anE y.2.e)):=by
 obtain ⟨y1,y2⟩:=y
 obtain ⟨h1,h2⟩:=h
 simp only at h1 h2
 subst h1
 by_cases h0:x.2=0
 ·have:(x.2 == 0)=true:=by simpa using h0
  rw [h2 h0,h0];rfl
 ·have h3:(x.2 == 0)=false:=by simpa using h0
  have h4:((anE x.2).e == 0)=false:=h3
  rw [h3]
  simp only [h4,Bool.false_eq_true,if_false]
  rfl
theorem kY {t:List It} {p:List UInt8} {is fo:Bool} (h:jL t fo (p,is,0)):(p=[]→is=true)∧(p≠[]→is=(aR t p).isSome):=by
 obtain ⟨h1,h2⟩:=h rfl
 simp only at h1 h2
 constructor
 ·intro hp
  cases is
  ·exact absurd hp (h2 rfl).1
  ·rfl
 ·intro hp
  cases is
  ·rw [(h2 rfl).2];rfl
  ·rcases h1 rfl with h|⟨n,h,_⟩
   ·exact absurd h hp
   ·rw [h];rfl
theorem qB {t:List It} {p:List UInt8} {is fo:Bool} (h:jL t fo (p,is,0)):TF is (nodeAt t p)=(is && aW t p):=by
 unfold TF nodeAt
 by_cases hp:p=[]
 ·subst hp;rfl
 ·have hb:(p == [])=false:=by simpa using hp
  rw [hb,mR hp]
  simp only [Bool.false_eq_true,if_false]
  rw [(kY h).2 hp]
  cases aR t p <;> rfl
theorem tS {t:List It} {p:List UInt8} (hp:p≠[]):nodeAt t p=(aR t p).getD nd0:=by
 unfold nodeAt
 rw [if_neg (by simpa using hp)]
section kinds
variable {t:List It} {p:List UInt8} {is fo:Bool} {c:Cl}
theorem BM (h:OkT t) (hw:jL t true (p,true,0)) (hd:aW t p=false):p≠[]∧(aR t p).isSome=true∧aU ((aR t p).getD nd0)=true∧(((aR t p).getD nd0).k == 2)=false∧(((aR t p).getD nd0).k == 3)=false:=by
 have hp:p≠[]:=by intro hp;subst hp;cases hd
 have hs:(aR t p).isSome=true:=((kY hw).2 hp).symm
 have hr:=h.getok hs
 obtain ⟨h1,_⟩:=hw rfl
 rcases h1 rfl with h1|⟨n,h1,h2⟩
 ·exact absurd h1 hp
 ·rw [mR hp] at hd
  simp only at h1
  rw [h1] at hd hr ⊢
  exact ⟨hp,rfl,hr.2.2,hd,h2 rfl⟩
theorem DQ (h:OkT t) (kind:Int) (hk:(c.k == 7)=(kind == 3)) (hk1:(c.k == 2)=(kind == 1)) (hk2:kind=1∨kind=2∨kind=3):vB (vC t p is kind c) ((yU t c p is).1,anE (yU t c p is).2):=by
 unfold vC yU
 cases is
 ·simp only [Bool.false_eq_true,if_false]
  have hm:(zI1 kind c).m=if c.k == 7 then 511 else c.m:=by unfold zI1;rw [hk]
  rw [hm]
  generalize hmm:(if c.k == 7 then (511:Int) else c.m)=m
  have hM:(decide (m<0) || decide ((4095:Int)<m)) = !iL m:=by
   unfold iL
   rw [Bool.not_and,← decide_not,← decide_not]
   congr 1 <;> exact decide_eq_decide.2 (by omega)
  have hT:(decide ((c.d.length:Int)<1) || decide ((120:Int)<c.d.length) || !(c.d.all fun b=>!(b == 0))) = !iZ c.d:=by
   unfold iZ
   rw [Bool.not_and,Bool.not_and,← decide_not,← decide_not,Bool.or_comm]
   have e:(c.d.all fun b=>!(b == 0))=(c.d.all fun b=>!((b.toNat:Int) == 0)):=by
    congr 1;funext b
    congr 1
    rw [Bool.eq_iff_iff,beq_iff_eq,beq_iff_eq]
    constructor
    ·rintro rfl;rfl
    ·intro h;exact UInt8.toNat_inj.1 (by have:(0:UInt8).toNat=0:=rfl;omega)
   rw [e]
   congr 1
   congr 1 <;> exact decide_eq_decide.2 (by omega)
  rw [hT,hM,hk,hk1]
  cases iL m
  ·simp only [Bool.not_false,Bool.true_or,if_true];exact cS (by decide)
  ·simp only [Bool.not_true,Bool.false_or,Bool.false_eq_true,if_false]
   split
   ·exact cS (by decide)
   ·split
    ·exact cS (by decide)
    ·have e:zI1 kind c=⟨if kind == 1 then 1 else if kind == 3 then 3 else 2,m,dA c.t,if kind == 1 || kind == 3 then c.d else []⟩:=by
      unfold zI1
      rw [← hmm,hk]
      rcases hk2 with rfl|rfl|rfl <;> rfl
     rw [e]
     refine ⟨rfl,fun _=>rfl⟩
 ·simp only [if_true];exact cS (by decide)
theorem zD5 (h:OkT t) (hw:jL t true (p,is,0)) (hk:c.k=3):vB (bY t p is (nodeAt t p) c) (qD t c p is):=by
 have hd:=qB hw
 simp only [bY,qD,tH,hk,hd,Int.reduceBEq,Bool.or_self,Bool.false_and,Bool.false_eq_true,if_false,if_true]
 cases is
 ·exact cS (e:=6) (by decide)
 ·cases hdp:aW t p
  ·obtain ⟨hp,hs,hr,hk2,hk3⟩:=BM h hw hdp
   rw [tS hp]
   generalize (aR t p).getD nd0=n at *
   have hl:=gI hr
   simp only [zU,Bool.not_true,Bool.true_and,Bool.false_eq_true,if_false,beq_self_eq_true]
   split
   ·exact cS (by decide)
   ·split
    ·exact cS (by decide)
    ·rename_i h1 h2
     simp only [Bool.or_eq_true,decide_eq_true_eq,not_or] at h1 h2
     rw [FX h hs (BD hr hk2 hk3 (zDG hl (by omega) (by omega))) fun _=>hdp]
     exact nZ
  ·exact cS (by decide)
theorem zCC (h:OkT t) (hw:jL t true (p,is,0)) (hk:c.k=4):vB (bY t p is (nodeAt t p) c) (qD t c p is):=by
 have hd:=qB hw
 simp only [bY,qD,tH,hk,hd,Int.reduceBEq,Bool.or_self,Bool.false_and,Bool.false_eq_true,if_false,if_true]
 cases is
 ·exact cS (e:=6) (by decide)
 ·cases hdp:aW t p
  ·obtain ⟨hp,hs,hr,hk2,hk3⟩:=BM h hw hdp
   rw [tS hp]
   generalize (aR t p).getD nd0=n at *
   have hl:=gI hr
   simp only [zS,Bool.not_true,Bool.true_and,Bool.false_eq_true,if_false,beq_self_eq_true]
   split
   ·exact cS (by decide)
   ·have hle:(n.d.take c.n.toNat).length≤n.d.length:=List.length_take_le' ..
    rw [FX h hs (BD hr hk2 hk3 (by omega)) fun _=>hdp]
    exact nZ
  ·exact cS (by decide)
theorem ZJ (hw:jL t fo (p,is,0)) (hk:c.k=5):vB (bY t p is (nodeAt t p) c) (qD t c p is):=by
 have hd:=qB hw
 simp only [bY,qD,tH,hk,hd,Int.reduceBEq,Bool.or_self,Bool.false_and,Bool.false_eq_true,if_false,if_true]
 cases is
 ·exact cS (e:=6) (by decide)
 ·cases aW t p
  ·exact nZ
  ·exact cS (by decide)
theorem zA4 (hw:jL t fo (p,is,0)) (hk:c.k=6):vB (bY t p is (nodeAt t p) c) (qD t c p is):=by
 have hd:=qB hw
 simp only [bY,qD,zJ,hk,hd,Int.reduceBEq,Bool.or_self,Bool.true_and,Bool.false_eq_true,if_false,if_true]
 cases p == []
 ·cases is
  ·exact cS (by decide)
  ·cases aW t p
   ·exact cS (by decide)
   ·simp only [Bool.not_true,Bool.and_self,Bool.false_eq_true,if_false]
    split
    ·exact cS (by decide)
    ·exact nZ
 ·exact cS (by decide)
theorem zAA (h:OkT t) (hw:jL t fo (p,is,0)) (hk:c.k=10):vB (bY t p is (nodeAt t p) c) (qD t c p is):=by
 simp only [bY,qD,zHN,hk,Int.reduceBEq,Bool.or_self,Bool.or_false,Bool.true_and,Bool.false_and,Bool.false_eq_true,if_false,if_true]
 cases is
 ·exact cS (by decide)
 ·have hM:(p == [] || !iL c.m)=(p == [] || decide (c.m<0) || decide (4095<c.m)):=by
   unfold iL
   rw [Bool.not_and,← decide_not,← decide_not,Bool.or_assoc]
   congr 2 <;> exact decide_eq_decide.2 (by omega)
  rw [← hM]
  simp only [Bool.not_true,Bool.false_eq_true,if_false]
  split
  ·exact cS (by decide)
  ·rename_i h1
   simp only [Bool.or_eq_true,not_or,Bool.not_eq_true',Bool.not_eq_false,beq_iff_eq] at h1
   have hs:(aR t p).isSome=true:=((kY hw).2 h1.1).symm
   rw [tS h1.1,FX h hs (YK (h.getok hs).2.2 h1.2) fun hk2=>?_]
   ·exact nZ
   ·rw [mR h1.1]
    obtain ⟨m,hm⟩:=Option.isSome_iff_exists.1 hs
    rw [hm] at hk2 ⊢;exact hk2
theorem zEj (h:OkT t) (hw:jL t fo (p,is,0)) (hk:c.k=11):vB (bY t p is (nodeAt t p) c) (qD t c p is):=by
 simp only [bY,qD,zHN,hk,Int.reduceBEq,Bool.or_self,Bool.or_false,Bool.or_true,Bool.false_and,Bool.false_eq_true,if_false,if_true]
 cases is
 ·exact cS (by decide)
 ·simp only [Bool.not_true,Bool.false_eq_true,if_false]
  split
  ·exact cS (by decide)
  ·rename_i h1
   simp only [beq_iff_eq] at h1
   have hs:(aR t p).isSome=true:=((kY hw).2 h1).symm
   rw [tS h1,FX h hs (XJ (h.getok hs).2.2) fun hk2=>?_]
   ·exact nZ
   ·rw [mR h1]
    obtain ⟨m,hm⟩:=Option.isSome_iff_exists.1 hs
    rw [hm] at hk2 ⊢;exact hk2
theorem XS (h:OkT t) (hw:jL t fo (p,is,0)) (hk:c.k=9):vB (bY t p is (nodeAt t p) c) (qD t c p is):=by
 have hd:=qB hw
 have hw2:=wW h c.to' false
 simp only [bY,qD,pM,SA,hk,hd,Int.reduceBEq,Bool.or_self,Bool.false_and,Bool.false_eq_true,if_false,if_true]
 cases is
 ·exact cS (by decide)
 ·generalize cJ t c.to' false=r at *
  obtain ⟨q,is2,e⟩:=r
  simp only [Bool.not_true,Bool.true_and,Bool.false_eq_true,if_false]
  by_cases he:e=0
  ·subst he
   simp only [beq_self_eq_true,Bool.not_true,Bool.false_eq_true,if_false]
   cases hpq:(p == [] || q == [])
   ·simp only [Bool.or_eq_false_iff] at hpq
    have hq:q≠[]:=by intro hq;rw [hq] at hpq;cases hpq.2
    simp only [Bool.false_eq_true,if_false]
    split
    ·exact ⟨rfl,fun _=>rfl⟩
    ·split
     ·exact cS (by decide)
     ·have hi2:=(kY hw2).2 hq
      cases is2
      ·have:aR t q=none:=by
        cases hg:aR t q
        ·rfl
        ·rw [hg] at hi2;cases hi2
       rw [zD3 h hq this]
       exact ⟨rfl,fun _=>rfl⟩
      ·simp only [XF,qB hw2,Bool.not_true,Bool.true_and,Bool.false_eq_true,if_false,if_true]
       cases aW t p <;> cases aW t q <;> simp only [Bool.not_true,Bool.not_false,Bool.true_and,Bool.false_and,Bool.false_eq_true,if_false,if_true,beq_self_eq_true,Int.reduceBEq]
       ·exact ⟨rfl,fun _=>rfl⟩
       ·exact cS (by decide)
       ·exact cS (by decide)
       ·cases decide ((0:Int)<(fX t q).length)
        ·exact ⟨rfl,fun _=>rfl⟩
        ·exact cS (by decide)
   ·exact cS (by decide)
  ·have:(e == 0)=false:=by simpa using he
   rw [this]
   exact cS he
end kinds
theorem zFt {t:List It} (h:OkT t):aR t []=none:=by
 cases hg:aR t []
 ·rfl
 ·exact absurd rfl (h.getok (p:=[]) (by rw [hg];rfl)).1
theorem zBR {t:List It} (h:OkT t) {p:List UInt8} {is:Bool} {fo:Bool} {c:Cl} (hw:jL t fo (p,is,0)) (hk:c.k=8∨c.k=12∨c.k=13∨c.k=14∨c.k=15):qD t c p is=(t,kH t p is (nodeAt t p) c):=by
 have hd:=qB hw
 cases is
 ·rcases hk with hk|hk|hk|hk|hk <;> simp only [qD,kH,yH,tH,hd,hk,Int.reduceBEq,Bool.or_self,Bool.false_or,Bool.or_false,Bool.false_and,Bool.not_false,Bool.false_eq_true,if_false,if_true] <;> rfl
 ·have key:(nodeAt t p).k=3∨(aW t p=false)→nodeAt t p=(aR t p).getD nd0:=by
   intro h1
   refine tS fun hp=>?_
   subst hp
   rcases h1 with h1|h1 <;> cases h1
  rcases hk with hk|hk|hk|hk|hk <;> simp only [qD,kH,yH,tH,hd,hk,Int.reduceBEq,Bool.or_self,Bool.or_false,Bool.or_true,Bool.true_and,Bool.false_and,Bool.not_true,Bool.false_eq_true,if_false,if_true]
  ·by_cases hp:p=[]
   ·subst hp
    rw [zFt h];rfl
   ·rw [tS hp]
    split <;> rfl
  ·cases hdp:aW t p
   ·rw [key (.inr hdp)]
    simp only [Bool.false_eq_true,if_false,beq_self_eq_true,Bool.not_true]
    split <;> rfl
   ·rfl
  ·split <;> rfl
theorem zBg {t:List It} {p:List UInt8} {is:Bool} {n:Nd} {c:Cl} (h:(kH t p is n c).e≠0):kH t p is n c=anE (kH t p is n c).e:=by
 unfold kH yH at h ⊢
 repeat' split at h
 all_goals first|exact absurd rfl h|(simp only [*,if_true,if_false,Bool.false_eq_true];rfl)
theorem zMp {t:List It} (h:OkT t) (c:Cl):doP t c=doR t c:=by
 unfold doP doR
 cases hr:(decide (c.k<1) || decide (15<c.k))
 ·simp only [Bool.or_eq_false_iff,decide_eq_false_iff_not] at hr
  simp only [Bool.false_eq_true,if_false]
  have hw:=wW h c.p (fN c.k)
  generalize cJ t c.p (fN c.k)=r at *
  obtain ⟨p,is,e⟩:=r
  simp only
  by_cases he:e=0
  ·subst he
   simp only [beq_self_eq_true,Bool.not_true,Bool.false_eq_true,if_false]
   have hc:c.k=1∨c.k=2∨c.k=3∨c.k=4∨c.k=5∨c.k=6∨c.k=7∨c.k=9∨c.k=10∨c.k=11∨c.k=8∨c.k=12∨c.k=13∨c.k=14∨c.k=15:=by omega
   have asks:(c.k=8∨c.k=12∨c.k=13∨c.k=14∨c.k=15)→(if (!lF c.k)=true then (t,kH t p is (nodeAt t p) c) else if ((bY t p is (nodeAt t p) c).2 == 0)=true then ((bY t p is (nodeAt t p) c).1,anE 0) else (t,anE (bY t p is (nodeAt t p) c).2))=if ((qD t c p is).2.e == 0)=true then qD t c p is else (t,anE (qD t c p is).2.e):=by
    intro hk
    have ht:lF c.k=false:=by rcases hk with hk|hk|hk|hk|hk <;> rw [hk] <;> rfl
    rw [ht,zBR h hw hk]
    simp only [Bool.not_false,if_true]
    split
    ·rfl
    ·rename_i h0
     rw [← zBg (by simpa using h0)]
   have turns:lF c.k=true→vB (bY t p is (nodeAt t p) c) (qD t c p is)→(if (!lF c.k)=true then (t,kH t p is (nodeAt t p) c) else if ((bY t p is (nodeAt t p) c).2 == 0)=true then ((bY t p is (nodeAt t p) c).1,anE 0) else (t,anE (bY t p is (nodeAt t p) c).2))=if ((qD t c p is).2.e == 0)=true then qD t c p is else (t,anE (qD t c p is).2.e):=by
    intro ht hrel
    rw [ht]
    simp only [Bool.not_true,Bool.false_eq_true,if_false]
    exact zHW hrel
   rcases hc with hk|hk|hk|hk|hk|hk|hk|hk|hk|hk|hk
   ·refine turns (by rw [hk];rfl) ?_
    have:=DQ (p:=p) (is:=is) (c:=c) h 2 (by rw [hk];rfl) (by rw [hk];rfl) (by simp)
    simpa only [bY,qD,hk,Int.reduceBEq,Bool.true_or,Bool.or_self,Bool.false_eq_true,if_true] using this
   ·refine turns (by rw [hk];rfl) ?_
    have:=DQ (p:=p) (is:=is) (c:=c) h 1 (by rw [hk];rfl) (by rw [hk];rfl) (by simp)
    simpa only [bY,qD,hk,Int.reduceBEq,Bool.true_or,Bool.or_true,Bool.or_self,Bool.false_eq_true,if_true,if_false] using this
   ·exact turns (by rw [hk];rfl) (zD5 h (by rw [hk] at hw;exact hw) hk)
   ·exact turns (by rw [hk];rfl) (zCC h (by rw [hk] at hw;exact hw) hk)
   ·exact turns (by rw [hk];rfl) (ZJ hw hk)
   ·exact turns (by rw [hk];rfl) (zA4 hw hk)
   ·refine turns (by rw [hk];rfl) ?_
    have:=DQ (p:=p) (is:=is) (c:=c) h 3 (by rw [hk];rfl) (by rw [hk];rfl) (by simp)
    simpa only [bY,qD,hk,Int.reduceBEq,Bool.true_or,Bool.or_true,Bool.or_self,Bool.false_eq_true,if_true,if_false] using this
   ·exact turns (by rw [hk];rfl) (XS h hw hk)
   ·exact turns (by rw [hk];rfl) (zAA h hw hk)
   ·exact turns (by rw [hk];rfl) (zEj h hw hk)
   ·exact asks hk
  ·have:(e == 0)=false:=by simpa using he
   rw [this];rfl
 ·rfl
end
end Go.Dm
