/- Part 14 of the proof of roomAsks_card, set without needless blanks. No condition. -/
import Derived.Test.YtlbfnbldeefgmaaGreatDoorA12
import Derived.Test.YtlbfnbldeefgmaaGreatDoorA08
import Derived.Test.YtlbfnbldeefgmaaGreatDoorRows
set_option linter.all false
section
namespace Go.Dm
open Go
def eE (s:List UInt8):List (List UInt8) × Int :=
 if decide ((120:Int)<s.length) then ([],12) else if !(s.all fun b=>!((b.toNat:Int) == 0)) then ([],1)
 else if (oK s).all fun x=>!decide ((24:Int)<x.length) then ((oK s).filter fun x=>!(x == []),0) else ([],12)
def HC (d:List UInt8):Bool:=match d with
 | b::_=>(b.toNat:Int) == 47
 | []=>false
def jM (t:List It) (fo:Bool):Nat→List UInt8→List (List UInt8)→Nat→List UInt8 × Bool × Int
 | 0,_,_,_=>([],false,11)
 | _+1,c,[],_=>(c,true,0)
 | f+1,c,p::ps,h =>
  if p == [46] then jM t fo f c ps h else if p == [46,46] then jM t fo f (aR c) ps h
  else if !aV t c then ([],false,9) else if decide ((120:Int)<(iS c p).length) then ([],false,12)
  else match aQ t (iS c p) with
  | none=>if ps == [] then (iS c p,false,0) else ([],false,6)
  | some n=>if n.k == 3 && (!(ps == []) || fo) then (if decide (8≤h) then ([],false,11) else if (eE n.d).2 == 0 then jM t fo f (if HC n.d then [] else c) ((eE n.d).1++ps) (h+1) else ([],false,(eE n.d).2)) else jM t fo f (iS c p) ps h
def cF (t:List It) (s:List UInt8) (fo:Bool):List UInt8 × Bool × Int :=
 if (eE s).2 == 0 then jM t fo 1400 [] (eE s).1 0 else ([],false,(eE s).2)
structure Cl where
 k:Int
 p:List UInt8
 to':List UInt8
 m:Int
 t:Nat
 at':Int
 n:Int
 d:List UInt8
structure An where
 e:Int
 n:Nd
 d:List UInt8
 l:List (List UInt8)
def anE (e:Int):An:=⟨e,nd0,[],[]⟩
def fW (k:Int):Bool:=k == 3 || k == 4 || k == 10 || k == 11 || k == 12 || k == 14 || k == 15
def fI (k:Int):Bool:=decide (1≤k) && decide (k≤11) && !(k == 8)
def jC (m:Int):Bool:=decide (0≤m) && decide (m≤4095)
def nodeAt (t:List It) (p:List UInt8):Nd:=if p == [] then ⟨2,0,0,[]⟩ else (aQ t p).getD nd0
def wrD (had:List UInt8) (f:Nat) (b:List UInt8):List UInt8:=had.take f++b++had.drop (f+b.length)
def VE (is:Bool) (n:Nd):Bool:=is && n.k == 2
def zJT (kind:Int) (c:Cl):Nd:=⟨kind,if kind == 3 then 511 else c.m,cY c.t,if kind == 2 then [] else c.d⟩
def vN (t:List It) (p:List UInt8) (is:Bool) (kind:Int) (c:Cl):List It × Int :=
 if is then ([],7) else if !jC (zJT kind c).m then ([],1)
 else if kind == 3 && (decide ((c.d.length:Int)<1) || decide ((120:Int)<c.d.length) || !(c.d.all fun b=>!(b == 0))) then ([],1)
 else if kind == 1 && decide ((2000:Int)<c.d.length) then ([],16) else lV t p (zJT kind c)
def pL (is:Bool) (n:Nd):Int:=if !is then 6 else if VE is n then 8 else 0
def AM (t:List It) (p:List UInt8) (n:Nd) (from':Int) (b:List UInt8):List It × Int :=
 if decide (from'<0) || decide ((n.d.length:Int)<from') then ([],1) else if decide (2000-from'<(b.length:Int)) then ([],16)
 else lV t p ⟨n.k,n.m,n.t,wrD n.d from'.toNat b⟩
def AG (t:List It) (p:List UInt8) (n:Nd) (k:Int):List It × Int :=
 if decide (k<0) || decide ((n.d.length:Int)<k) then ([],1) else lV t p ⟨n.k,n.m,n.t,n.d.take k.toNat⟩
def zL (t:List It) (p:List UInt8) (is:Bool) (n:Nd):List It × Int :=
 if p == [] then ([],1) else if !is then ([],6) else if !VE is n then ([],9) else if decide ((0:Int)<(fR t p).length) then ([],10) else (bU t p,0)
def zIx (t:List It) (p:List UInt8) (is:Bool) (n:Nd) (c:Cl):List It × Int :=
 if !is then ([],6) else if p == [] || c.k == 10 && !jC c.m then ([],1)
 else if c.k == 10 then lV t p ⟨n.k,c.m,n.t,n.d⟩ else lV t p ⟨n.k,n.m,cY c.t,n.d⟩
def ZY (d:Bool) (t:List It) (q:List UInt8) (is:Bool) (n:Nd):Int :=
 if !is then 0 else if d && !VE is n then 9 else if d && decide ((0:Int)<(fR t q).length) then 10 else if !d && VE is n then 8 else 0
def qD (t:List It) (p:List UInt8) (is:Bool) (n:Nd) (to':List UInt8):List It × Int :=
 if !is then ([],6) else if !((cF t to' false).2.2 == 0) then ([],(cF t to' false).2.2)
 else if p == [] || (cF t to' false).1 == [] then ([],1) else if p == (cF t to' false).1 then (t,0)
 else if aP p (cF t to' false).1 then ([],18)
 else if !(ZY (VE is n) t (cF t to' false).1 (cF t to' false).2.1 (nodeAt t (cF t to' false).1) == 0) then ([],ZY (VE is n) t (cF t to' false).1 (cF t to' false).2.1 (nodeAt t (cF t to' false).1))
 else nN (bU t (cF t to' false).1) p (cF t to' false).1
def bY (t:List It) (p:List UInt8) (is:Bool) (n:Nd) (c:Cl):List It × Int :=
 if c.k == 1 then vN t p is 2 c else if c.k == 2 then vN t p is 1 c else if c.k == 7 then vN t p is 3 c else if c.k == 6 then zL t p is n
 else if c.k == 10 || c.k == 11 then zIx t p is n c else if c.k == 9 then qD t p is n c.to'
 else if !(pL is n == 0) then ([],pL is n) else if c.k == 3 then AM t p n c.at' c.d else if c.k == 4 then AG t p n c.n else (bU t p,0)
def rW (is:Bool) (n:Nd) (from' k:Int):An :=
 if !(pL is n == 0) then anE (pL is n) else if decide (from'<0) || decide (k<0) then anE 1 else ⟨0,nd0,(n.d.drop from'.toNat).take k.toNat,[]⟩
def gJ (t:List It) (p:List UInt8) (is:Bool) (n:Nd) (c:Cl):An :=
 if c.k == 14 then rW is n c.at' c.n else if !is then anE 6 else if c.k == 8 && !(n.k == 3) then anE 1 else if c.k == 8 then ⟨0,nd0,n.d,[]⟩
 else if c.k == 15 && !VE is n then anE 9 else if c.k == 15 then ⟨0,nd0,[],fR t p⟩ else ⟨0,n,[],[]⟩
def doP (t:List It) (c:Cl):List It × An :=
 if decide (c.k<1) || decide (15<c.k) then (t,anE 1) else if !((cF t c.p (fW c.k)).2.2 == 0) then (t,anE (cF t c.p (fW c.k)).2.2)
 else if !fI c.k then (t,gJ t (cF t c.p (fW c.k)).1 (cF t c.p (fW c.k)).2.1 (nodeAt t (cF t c.p (fW c.k)).1) c)
 else if (bY t (cF t c.p (fW c.k)).1 (cF t c.p (fW c.k)).2.1 (nodeAt t (cF t c.p (fW c.k)).1) c).2 == 0 then ((bY t (cF t c.p (fW c.k)).1 (cF t c.p (fW c.k)).2.1 (nodeAt t (cF t c.p (fW c.k)).1) c).1,anE 0)
 else (t,anE (bY t (cF t c.p (fW c.k)).1 (cF t c.p (fW c.k)).2.1 (nodeAt t (cF t c.p (fW c.k)).1) c).2)
def xE (t:List It) (c:Cl) (p:List UInt8) (is:Bool):List It × Int :=
 if is then (t,7)
 else if decide ((if c.k == 7 then 511 else c.m)<0) || decide ((4095:Int)<(if c.k == 7 then 511 else c.m)) || c.k == 7 && !jK c.d then (t,1)
 else if c.k == 2 && decide ((2000:Int)<c.d.length) then (t,16)
 else lV t p ⟨if c.k == 2 then 1 else if c.k == 7 then 3 else 2,if c.k == 7 then 511 else c.m,cY c.t,if c.k == 2 || c.k == 7 then c.d else []⟩
def SE (t:List It) (p:List UInt8) (dir:Bool) (to':List UInt8):List It × Int :=
 if !((cF t to' false).2.2 == 0) then (t,(cF t to' false).2.2)
 else if p == [] || (cF t to' false).1 == [] then (t,1) else if p == (cF t to' false).1 then (t,0)
 else if aP p (cF t to' false).1 then (t,18)
 else if (cF t to' false).2.1 then
  (if dir && !aV t (cF t to' false).1 then (t,9) else if dir && decide ((0:Int)<(fR t (cF t to' false).1).length) then (t,10)
   else if !dir && aV t (cF t to' false).1 then (t,8) else nN (bU t (cF t to' false).1) p (cF t to' false).1)
 else nN t p (cF t to' false).1
def qH (t:List It) (c:Cl) (p:List UInt8) (is:Bool):List It × An :=
 let n:=(aQ t p).getD nd0
 let dir:=is && aV t p
 if c.k == 1 || c.k == 2 || c.k == 7 then ((xE t c p is).1,anE (xE t c p is).2)
 else if c.k == 6 && p == [] then (t,anE 1) else if !is then (t,anE 6)
 else if c.k == 3 then (if dir then (t,anE 8) else if decide (c.at'<0) || decide ((n.d.length:Int)<c.at') then (t,anE 1) else if decide (2000-c.at'<(c.d.length:Int)) then (t,anE 16) else (sP t p ⟨n.k,n.m,n.t,wrD n.d c.at'.toNat c.d⟩,anE 0))
 else if c.k == 4 then (if dir then (t,anE 8) else if decide (c.n<0) || decide ((n.d.length:Int)<c.n) then (t,anE 1) else (sP t p ⟨n.k,n.m,n.t,n.d.take c.n.toNat⟩,anE 0))
 else if c.k == 5 then (if dir then (t,anE 8) else (bU t p,anE 0))
 else if c.k == 6 then (if !dir then (t,anE 9) else if decide ((0:Int)<(fR t p).length) then (t,anE 10) else (bU t p,anE 0))
 else if c.k == 8 then (if !(n.k == 3) then (t,anE 1) else (t,⟨0,nd0,n.d,[]⟩))
 else if c.k == 12 || c.k == 13 then (t,⟨0,nodeAt t p,[],[]⟩)
 else if c.k == 14 then (if dir then (t,anE 8) else if decide (c.at'<0) || decide (c.n<0) then (t,anE 1) else (t,⟨0,nd0,(n.d.drop c.at'.toNat).take c.n.toNat,[]⟩))
 else if c.k == 15 then (if !dir then (t,anE 9) else (t,⟨0,nd0,[],fR t p⟩))
 else if c.k == 10 then (if p == [] || decide (c.m<0) || decide (4095<c.m) then (t,anE 1) else (sP t p ⟨n.k,c.m,n.t,n.d⟩,anE 0))
 else if c.k == 11 then (if p == [] then (t,anE 1) else (sP t p ⟨n.k,n.m,cY c.t,n.d⟩,anE 0))
 else ((SE t p dir c.to').1,anE (SE t p dir c.to').2)
def doR (t:List It) (c:Cl):List It × An :=
 if decide (c.k<1) || decide (15<c.k) then (t,anE 1) else if !((cF t c.p (fW c.k)).2.2 == 0) then (t,anE (cF t c.p (fW c.k)).2.2)
 else if (qH t c (cF t c.p (fW c.k)).1 (cF t c.p (fW c.k)).2.1).2.e == 0 then qH t c (cF t c.p (fW c.k)).1 (cF t c.p (fW c.k)).2.1
 else (t,anE (qH t c (cF t c.p (fW c.k)).1 (cF t c.p (fW c.k)).2.1).2.e)
end Go.Dm
end
section
namespace Go.Dm
open Go
theorem zGN {c x:List UInt8} (h:x≠[]):iS c x≠[]:=by
 unfold iS;split
 ·exact h
 ·simp
theorem zDV {t:List It} {b:List UInt8} (h:Par t) (hb:b≠[]):∀ (n:Nat) (q:List UInt8),q.length≤n→(aQ t q).isSome=true→aP b q=true→aV t b=true
 | 0,q,hl,_,hq=>by
  have h1:q=[]:=by simpa using hl
  subst h1;have h2:=dO hq;exact absurd (by simpa using h2) hb
 | n+1,q,hl,hs,hq=>by
  obtain ⟨m,hm⟩:=Option.isSome_iff_exists.1 hs;obtain ⟨x,hx,rfl,_⟩:=bZ hm;have hdx:=h x hx;rcases iF hb hq with h1|h1
  ·rw [← h1];exact hdx
  ·have h0:aR x.p≠[]:=by
    intro h0;rw [h0] at h1;have:=dO h1;exact absurd (by simpa using this) hb
   obtain ⟨m,h2,_⟩:=cN h0 hdx;have hlt:=qY h0;exact zDV h hb n _ (by omega) (by rw [h2];rfl) h1
theorem CF {t:List It} (h:OkT t) {p:List UInt8} (hp:p≠[]) (hd:aV t p=false):bE t p=t:=by
 unfold bE;refine List.filter_eq_self.2 fun x hx=>?_;cases hb:aP p x.p
 ·rfl
 ·have:=zDV h.par hp _ x.p (Nat.le_refl _) (by rw [cI h.srt hx];rfl) hb;rw [hd] at this;cases this
theorem nG {t:List It} {p:List UInt8} (hp:p≠[]):aV t p=match aQ t p with|some n=>n.k == 2|none=>false:=by
 unfold aV;have:(p == [])=false:=by simpa using hp
 rw [this];rfl
theorem zJc {t:List It} {p:List UInt8} (h:aQ t p=none):pI t p=t:=by
 unfold pI;refine List.filter_eq_self.2 fun x hx=>?_;cases hb:x.p == p
 ·rfl
 ·exfalso;have:∀ {t:List It},x∈t→aQ t p≠none:=by
   intro t ht
   induction t with
   | nil=>simp at ht
   | cons y r ih =>
    rw [aQ];split
    ·simp
    ·rcases List.mem_cons.1 ht with rfl|ht
     ·rename_i hn;exact absurd hb hn
     ·exact ih ht
  exact this hx h
theorem zEg {t:List It} (h:OkT t) {p:List UInt8} (hp:p≠[]) (hn:aQ t p=none):bU t p=t:=by
 unfold bU;rw [CF h hp (by rw [nG hp,hn]),zJc hn]
def jR (t:List It) (fo:Bool) (r:List UInt8 × Bool × Int):Prop :=
 r.2.2=0→(r.2.1=true→r.1=[]∨∃ n,aQ t r.1=some n∧(fo=true→(n.k == 3)=false))∧(r.2.1=false→r.1≠[]∧aQ t r.1=none)
def InT (t:List It) (c:List UInt8):Prop:=c=[]∨∃ n,aQ t c=some n
theorem NQ {s:List UInt8}:∀ x∈(eE s).1,x≠[]:=by
 intro x hx;unfold eE at hx;split at hx
 ·simp at hx
 ·split at hx
  ·simp at hx
  ·split at hx
   ·have:=(List.mem_filter.1 hx).2;intro h;subst h;simp at this
   ·simp at hx
theorem JQ {t:List It} (h:OkT t) {c:List UInt8} (hc:InT t c):aV t (aR c)=true:=by
 rcases hc with rfl|⟨n,hn⟩
 ·rfl
 ·obtain ⟨x,hx,rfl,_⟩:=bZ hn;exact h.par x hx
theorem zIe {t:List It} {c:List UInt8} (h:aV t c=true):c=[]∨∃ n,aQ t c=some n∧(n.k == 3)=false:=by
 by_cases hc:c=[]
 ·exact .inl hc
 ·obtain ⟨m,h1,h2⟩:=cN hc h;exact .inr ⟨m,h1,by rw [h2];rfl⟩
theorem jN {t:List It} (h:OkT t) {fo:Bool}:∀ (f:Nat) (c:List UInt8) (ps:List (List UInt8)) (hops:Nat),(c=[]∨∃ n,aQ t c=some n∧(fo=true→(n.k == 3)=false))→(∀ x∈ps,x≠[])→jR t fo (jM t fo f c ps hops)
 | 0,c,ps,hops,hc,hps=>by intro h0;simp [jM] at h0
 | f+1,c,[],hops,hc,hps=>by
  intro _;simp only [jM];exact ⟨fun _=>hc,fun h=>by cases h⟩
 | f+1,c,p::ps,hops,hc,hps=>by
  have hpn:=hps p List.mem_cons_self;have hps':∀ x∈ps,x≠[]:=fun x hx=>hps x (List.mem_cons_of_mem _ hx);have bad:∀ e:Int,e≠0→jR t fo ([],false,e):=fun e he h0=>absurd h0 he;simp only [jM];split
  ·exact jN h f c ps hops hc hps'
  ·split
   ·refine jN h f _ ps hops ?_ hps';have hd:aV t (aR c)=true:=JQ h (hc.imp id fun ⟨n,hn,_⟩=>⟨n,hn⟩);exact (zIe hd).imp id fun ⟨n,h1,h2⟩=>⟨n,h1,fun _=>h2⟩
   ·split
    ·exact bad 9 (by decide)
    ·split
     ·exact bad 12 (by decide)
     ·rename_i hdir _;have hdir:aV t c=true:=by simpa using hdir
      split
      ·rename_i hg;split
       ·refine fun _=>⟨fun h=>?_,fun _=>⟨zGN hpn,hg⟩⟩;cases h
       ·exact bad 6 (by decide)
      ·rename_i n hg;split
       ·split
        ·exact bad 11 (by decide)
        ·split
         ·refine jN h f _ _ _ ?_ ?_
          ·split
           ·exact .inl rfl
           ·exact (zIe hdir).imp id fun ⟨n,h1,h2⟩=>⟨n,h1,fun _=>h2⟩
          ·intro x hx;rcases List.mem_append.1 hx with hx|hx
           ·exact NQ x hx
           ·exact hps' x hx
         ·rename_i he;exact bad _ (by simpa using he)
       ·rename_i hlk;refine jN h f _ ps hops (.inr ⟨n,hg,fun hf=>?_⟩) hps';rw [hf,Bool.or_true,Bool.and_true] at hlk;simpa using hlk
theorem AJ {t:List It} (h:OkT t) (s:List UInt8) (fo:Bool):jR t fo (cF t s fo):=by
 unfold cF;split
 ·exact jN h _ _ _ _ (.inl rfl) NQ
 ·rename_i he;exact fun h0=>absurd h0 (by simpa using he)
end Go.Dm
end
section
namespace Go.Dm
open Go
def zMD (d:List UInt8) (hops:Nat):Int:=if decide (8≤hops) then 11 else (eE d).2
def zMC (d:List UInt8) (hops:Nat) (c:List UInt8):List UInt8:=if decide (8≤hops) then c else if (eE d).2 == 0 then (if HC d then [] else c) else c
def zME (d:List UInt8) (hops:Nat) (ps:List (List UInt8)):List (List UInt8):=if decide (8≤hops) then ps else if (eE d).2 == 0 then (eE d).1++ps else ps
def tE (t:List It) (fo:Bool) (c s:List UInt8) (ps:List (List UInt8)) (hops:Nat):(Bool × Int) × (List UInt8 × List (List UInt8) × Nat) :=
 if !aV t c then ((false,9),(c,ps,hops)) else if decide ((120:Int)<(iS c s).length) then ((false,12),(c,ps,hops))
 else match aQ t (iS c s) with
 | none=>if ps == [] then ((false,0),(iS c s,ps,hops)) else ((false,6),(c,ps,hops))
 | some n=>if n.k == 3 && (!(ps == []) || fo) then ((true,zMD n.d hops),(zMC n.d hops c,zME n.d hops ps,hops+1)) else ((true,0),(iS c s,ps,hops))
theorem uD {s:List UInt8}:(eE s).1.length≤121:=by
 unfold eE;split
 ·simp
 ·split
  ·simp
  ·split
   ·rename_i h _ _;have h:¬ (120:Int)<s.length:=by simpa using h
    refine Nat.le_trans (List.length_filter_le ..) (Nat.le_trans (oJ s []) ?_);omega
   ·simp
theorem DJ {s:List UInt8}:∀ p∈(eE s).1,p.length≤120:=by
 intro p hp;unfold eE at hp;split at hp
 ·simp at hp
 ·rename_i h;split at hp
  ·simp at hp
  ·split at hp
   ·have:=qU s [] p (List.mem_filter.1 hp).1;have h:¬ (120:Int)<s.length:=by simpa using h
    simp at this;omega
   ·simp at hp
structure WI (t:List It) (fo:Bool) (W:List UInt8 × Bool × Int) (f:Nat) (c:List UInt8) (ps:List (List UInt8)) (hops:Nat) (there:Bool) (e:Int):Prop where
 cl:c.length≤120
 pl:∀ p∈ps,p.length≤120
 fl:f≤1400
 hl:hops≤9
 go:e=0→hops≤8∧(9-hops)*130+ps.length<f∧(ps≠[]→there=true∧jM t fo f c ps hops=W)∧(ps=[]→W=(c,there,0))
 no:e≠0→W=([],false,e)
theorem JR (c:List UInt8):(aR c).length≤c.length:=by
 by_cases h:aR c=[]
 ·rw [h];simp
 ·exact Nat.le_of_lt (qY h)
section
variable {t:List It} {fo:Bool} {W:List UInt8 × Bool × Int} {f:Nat} {c p:List UInt8} {ps:List (List UInt8)} {hops:Nat} {there:Bool}
theorem WI.next {c':List UInt8} (h:WI t fo W (f+1) c (p::ps) hops there 0) (hc:c'.length≤120) (hw:jM t fo (f+1) c (p::ps) hops=jM t fo f c' ps hops):WI t fo W f c' ps hops true 0:=by
 obtain ⟨h1,h2,h3,_⟩:=h.go rfl;obtain ⟨ht,hW⟩:=h3 (by simp);rw [hw] at hW;have hfl:=h.fl;simp only [List.length_cons] at h2;refine ⟨hc,fun q hq=>h.pl q (List.mem_cons_of_mem _ hq),by omega,by omega,fun _=>⟨h1,by omega,fun _=>⟨rfl,hW⟩,fun h0=>?_⟩,fun h0=>absurd rfl h0⟩
 subst h0;obtain ⟨k,rfl⟩:∃ k,f=k+1:=⟨f-1,by omega⟩
 rw [← hW];rfl
theorem WI.there_true (h:WI t fo W f c (p::ps) hops there 0):there=true:=((h.go rfl).2.2.1 (by simp)).1
theorem WI.dot (h:WI t fo W (f+1) c (p::ps) hops there 0) (hp:(p == [46])=true):WI t fo W f c ps hops there 0:=by
 rw [h.there_true];exact h.next h.cl (by simp only [jM,hp,if_true])
theorem WI.dots (h:WI t fo W (f+1) c (p::ps) hops there 0) (hp:(p == [46])=false) (hq:(p == [46,46])=true):WI t fo W f (aR c) ps hops there 0:=by
 rw [h.there_true];exact h.next (Nat.le_trans (JR c) h.cl) (by simp only [jM,hp,hq,if_true,Bool.false_eq_true,if_false])
theorem WI.down (h:WI t fo W (f+1) c (p::ps) hops there 0) (hp:(p == [46])=false) (hq:(p == [46,46])=false):
  WI t fo W f (tE t fo c p ps hops).2.1 (tE t fo c p ps hops).2.2.1 (tE t fo c p ps hops).2.2.2 (tE t fo c p ps hops).1.1 (tE t fo c p ps hops).1.2:=by
 obtain ⟨h1,h2,h3,_⟩:=h.go rfl;obtain ⟨ht,hW⟩:=h3 (by simp);have hfl:=h.fl;simp only [List.length_cons] at h2;have hpl:∀ q∈ps,q.length≤120:=fun q hq=>h.pl q (List.mem_cons_of_mem _ hq);have fell:∀ {e:Int} {c':List UInt8} {ps':List (List UInt8)} {h':Nat} {th:Bool},e≠0→W=([],false,e)→c'.length≤120→(∀ q∈ps',q.length≤120)→h'≤9→WI t fo W f c' ps' h' th e :=
  fun he hw a b g=>⟨a,b,by omega,g,fun h0=>absurd h0 he,fun _=>hw⟩
 simp only [jM,hp,hq,Bool.false_eq_true,if_false] at hW;unfold tE;split
 ·rename_i hd;rw [if_pos hd] at hW;show WI t fo W f c ps hops false 9;exact fell (by decide) hW.symm h.cl hpl (by omega)
 ·rename_i hd;rw [if_neg hd] at hW;split
  ·rename_i hl;rw [if_pos hl] at hW;show WI t fo W f c ps hops false 12;exact fell (by decide) hW.symm h.cl hpl (by omega)
  ·rename_i hl;rw [if_neg hl] at hW;have hjl:(iS c p).length≤120:=by simp only [decide_eq_true_eq] at hl;omega
   cases hg:aQ t (iS c p) with
   | none =>
    rw [hg] at hW;simp only at hW ⊢;split
    ·rename_i hps;rw [if_pos hps] at hW;have hps:=eq_of_beq hps;subst hps;simp only;exact ⟨hjl,hpl,by omega,by omega,fun _=>⟨h1,by simp only [List.length_nil] at h2 ⊢;omega,fun h0=>absurd rfl h0,fun _=>hW.symm⟩,fun h0=>absurd rfl h0⟩
    ·rename_i hps;rw [if_neg hps] at hW;show WI t fo W f c ps hops false 6;exact fell (by decide) hW.symm h.cl hpl (by omega)
   | some n =>
    rw [hg] at hW;simp only at hW ⊢;split
    ·rename_i hlk;rw [if_pos hlk] at hW;unfold zMD zMC zME;simp only at hW ⊢;split
     ·rename_i h8;rw [if_pos h8] at hW;exact fell (by decide) hW.symm h.cl hpl (by omega)
     ·rename_i h8;rw [if_neg h8] at hW;simp only [decide_eq_true_eq] at h8;have hsl:=uD (s:=n.d);have hsm:=DJ (s:=n.d);cases he:((eE n.d).2 == 0)
      ·rw [he] at hW;simp only [Bool.false_eq_true,if_false] at hW ⊢;exact fell (by simpa using he) hW.symm h.cl hpl (by omega)
      ·rw [he] at hW;simp only [if_true] at hW ⊢;have he:=eq_of_beq he;rw [he];refine ⟨by split;simp;exact h.cl,fun q hq=>?_,by omega,by omega,fun _=>⟨by omega,by rw [List.length_append];omega,fun _=>⟨rfl,hW⟩,fun h0=>?_⟩,fun h0=>absurd rfl h0⟩
       ·rcases List.mem_append.1 hq with hq|hq
        ·exact hsm q hq
        ·exact hpl q hq
       ·rw [h0] at hW;obtain ⟨k,rfl⟩:∃ k,f=k+1:=⟨f-1,by omega⟩
        rw [← hW];rfl
    ·rename_i hlk;rw [if_neg hlk] at hW;simp only;refine ⟨hjl,hpl,by omega,by omega,fun _=>⟨h1,by omega,fun _=>⟨rfl,hW⟩,fun h0=>?_⟩,fun h0=>absurd rfl h0⟩
     subst h0;obtain ⟨k,rfl⟩:∃ k,f=k+1:=⟨f-1,by omega⟩
     rw [← hW];rfl
end
theorem oD {t:List It} {fo:Bool}:∀ (f:Nat) (c:List UInt8) (ps:List (List UInt8)) (hops:Nat),c.length≤120→(jM t fo f c ps hops).1.length≤120
 | 0,_,_,_,_=>by simp [jM]
 | _+1,_,[],_,h=>h
 | f+1,c,p::ps,hops,h=>by
  simp only [jM];split
  ·exact oD f _ _ _ h
  ·split
   ·exact oD f _ _ _ (Nat.le_trans (JR c) h)
   ·split
    ·simp
    ·split
     ·simp
     ·rename_i hl;have hjl:(iS c p).length≤120:=by simp only [decide_eq_true_eq] at hl;omega
      split
      ·split
       ·exact hjl
       ·simp
      ·split
       ·split
        ·simp
        ·split
         ·refine oD f _ _ _ ?_;split
          ·simp
          ·exact h
         ·simp
       ·exact oD f _ _ _ hjl
theorem PA {t:List It} {s:List UInt8} {fo:Bool}:(cF t s fo).1.length≤120:=by
 unfold cF;split
 ·exact oD _ _ _ _ (by simp)
 ·simp
end Go.Dm
end
section
namespace Go.Dm
open Go
structure RC where
 k:Int
 p:Int
 to':Int
 m:Int
 t:Int
 at':Int
 n:Int
 how:Int
 x:Nat
 d:List UInt8
 s:List UInt8
def RC.cs (x:RC):List PV:=[.i .i64 x.k,.i .i64 x.p,.i .i64 x.to',.i .i64 x.m,.i .i64 x.t,.i .i64 x.at',.i .i64 x.n,.i .i64 x.how,.f x.x,.sl 1 (bO x.d),.s x.s]
def KD (l:List RC):List (List PV):=l.map RC.cs
theorem zCu (l:List RC):(KD l).length=l.length:=by simp [KD]
attribute [go_sem] zCu
theorem zGg {t:List RC} {k:Nat} {x:RC} (h:t[k]? = some x):(KD t).getD k []=[.i .i64 x.k,.i .i64 x.p,.i .i64 x.to',.i .i64 x.m,.i .i64 x.t,.i .i64 x.at',.i .i64 x.n,.i .i64 x.how,.f x.x,.sl 1 (bO x.d),.s x.s]:=by
 simp only [KD,List.getD_eq_getElem?_getD,List.getElem?_map,h];rfl
def NC (n how:Int) (s:List UInt8):List UInt8 :=
 if how % 24 == 0 then 47::kK n else if how % 24 == 1 then kK n++[47] else if how % 24 == 2 then 46::47::kK n
 else if how % 24 == 3 then kK n++[47,46,46] else if how % 24 == 4 then kK n++[47,46,46,47]++tP n else if how % 24 == 5 then kK n++[47,46]
 else if how % 24 == 6 then s else if how % 24 == 7 then [47] else if how % 24 == 8 then tP n++[47,47]++tP (IntKind.i64.wrap (n.tdiv 6)) else kK n
theorem ND {n how:Int} {s:List UInt8} {b:Nat} (hb:100≤b) (hs:s.length≤b):(NC n how s).length≤b:=by
 have h1:=nU n;have h2:=gC n;have h3:=gC (IntKind.i64.wrap (n.tdiv 6));unfold NC
 repeat' split
 all_goals first|(simp only [List.length_append,List.length_cons,List.length_nil];omega)|omega
def EL (k:Int) (x:RC):Cl where
 k:=k
 p:=NC x.p x.how x.s
 to':=if k == 9 then NC x.to' (IntKind.i64.wrap (x.how.tdiv 24)) x.s else []
 m:=if k == 1 || k == 2 || k == 10 then x.m % 4099-1 else 0
 t:=if k == 1 || k == 2 || k == 7 || k == 11 then AA x.t x.x else 0
 at':=if k == 3 || k == 14 then x.at' % 30-1 else 0
 n:=if k == 4 || k == 14 then x.n % 40-1 else 0
 d:=if k == 2 || k == 3 then (if x.n.tmod 67 == 66 then List.replicate (1980+(x.at' % 40).toNat) 0 else x.d.take 60) else if k == 7 then (if x.n.tmod 17 == 16 then x.d.take 200 else FU x.to') else []
structure OkC (c:Cl):Prop where
 p:c.p.length≤9223372036854775807
 q:c.to'.length≤9223372036854775807
 t:c.t<18446744073709551616
 d:c.d.length≤140737488355328
 a:-9223372036854775808≤c.at'∧c.at'≤9223372036854775807
theorem zFs {k:Int} {x:RC} (hs:x.s.length≤9223372036854775807) (hx:x.x<18446744073709551616):OkC (EL k x):=by
 have a1:=Int.emod_nonneg x.at' (show (30:Int)≠0 by decide)
 have a2:=Int.emod_lt_of_pos x.at' (show (0:Int)<30 by decide)
 have a3:=Int.emod_nonneg x.at' (show (40:Int)≠0 by decide)
 have a4:=Int.emod_lt_of_pos x.at' (show (0:Int)<40 by decide)
 refine ⟨ND (by omega) hs,?_,?_,?_,?_⟩
 ·simp only [EL];split
  ·exact ND (by omega) hs
  ·simp
 ·simp only [EL];split
  ·exact XD hx
  ·omega
 ·have:=LI x.to';simp only [EL]
  repeat' split
  all_goals first|(simp only [List.length_replicate];omega)|(simp only [List.length_take];omega)|omega|simp
 ·simp only [EL];split <;> omega
theorem zIk (k:Int):k=1∨k=2∨k=3∨k=4∨k=7∨k=9∨k=10∨k=11∨k=14 ∨
  ((k == 1)=false∧(k == 2)=false∧(k == 3)=false∧(k == 4)=false∧(k == 7)=false∧(k == 9)=false∧(k == 10)=false∧(k == 11)=false∧(k == 14)=false):=by
 simp only [beq_eq_false_iff_ne];omega
end Go.Dm
end
section
namespace Go.Proofs.YtlbfnbldeefgmaaGreatDoor
open Go Go.Dm Go.RowKit Go.ChangeShapes Go.WideShapes
set_option maxRecDepth 100000
theorem zLW {g:Nat} {xs:List PV} (h:mS tab (g+1) 9 xs):∃ l,xs=[.s l]∧l.length≤9223372036854775807:=by
 simp only [mS,tab9] at h;obtain ⟨n,h,h2⟩:=h;exact ⟨n,h,h2⟩
def zMs (r:RC):Prop:=r.d.length≤9223372036854775807∧r.s.length≤9223372036854775807∧r.x<18446744073709551616
theorem zM9 {g:Nat} {xs:List PV} (h:mS tab (g+1+1+1) 39 xs):∃ r:RC,xs=r.cs∧zMs r:=by
 obtain ⟨parts,rfl,hp⟩:=qA (by rw [tab39]) h;obtain ⟨a1,_,rfl,h1,hp⟩:=dF hp;obtain ⟨a2,_,rfl,h2,hp⟩:=dF hp;obtain ⟨a3,_,rfl,h3,hp⟩:=dF hp;obtain ⟨a4,_,rfl,h4,hp⟩:=dF hp;obtain ⟨a5,_,rfl,h5,hp⟩:=dF hp;obtain ⟨a6,_,rfl,h6,hp⟩:=dF hp;obtain ⟨a7,_,rfl,h7,hp⟩:=dF hp;obtain ⟨a8,_,rfl,h8,hp⟩:=dF hp;obtain ⟨a9,_,rfl,h9,hp⟩:=dF hp;obtain ⟨a10,_,rfl,h10,hp⟩:=dF hp;obtain ⟨a11,_,rfl,h11,hp⟩:=dF hp;obtain rfl:=RZ hp;obtain ⟨n1,rfl⟩:=mK h1;obtain ⟨n2,rfl⟩:=mK h2;obtain ⟨n3,rfl⟩:=mK h3;obtain ⟨n4,rfl⟩:=mK h4;obtain ⟨n5,rfl⟩:=mK h5;obtain ⟨n6,rfl⟩:=mK h6;obtain ⟨n7,rfl⟩:=mK h7;obtain ⟨n8,rfl⟩:=mK h8;obtain ⟨n9,rfl,hn9⟩:=WS h9;obtain ⟨n10,rfl,hn10⟩:=WQ h10;obtain ⟨n11,rfl,hn11⟩:=zLW h11;exact ⟨⟨n1,n2,n3,n4,n5,n6,n7,n8,n9,n10,n11⟩,rfl,hn10,hn11,hn9⟩
theorem zHg {g:Nat} {xs:List PV} (h:mS tab (g+1+1+1+1) 22 xs):∃ l:List RC,xs=[.sl 11 (KD l)]∧l.length≤9223372036854775807∧∀ r∈l,zMs r:=by
 unfold mS at h;rw [tab22] at h;simp only [tab39] at h;obtain ⟨es,h,h2,h3⟩:=h;obtain ⟨l,rfl,hl⟩:=RL (f:=RC.cs) (B:=zMs) fun x hx=>zM9 (h2 x hx);exact ⟨l,h,by simp at h3;omega,hl⟩
section
variable {H:Type} {enc:TypeId × Value→H} {W:World} {base:Nat} {v:Value} {d:DataW H} {p:List MemPlace}
theorem zA4 (hv:Value.okWide Tryz.prog W .any base 22 v) (h:DataW.Trod enc Tryz.prog W 0 (fun _=>true) true 22 v d p):
  ∃ l:List RC,(l.length≤9223372036854775807∧∀ r∈l,zMs r)∧bA (eC W) (.c (.p (.sl 11 (KD l)))) v:=by
 obtain ⟨xs,hx,hr⟩:=TP aB 4 (by kernel_rfl) hv h;obtain ⟨l,rfl,hl⟩:=zHg hx;exact ⟨l,hl,hr⟩
end
end Go.Proofs.YtlbfnbldeefgmaaGreatDoor
end
section
namespace Go.Proofs.YtlbfnbldeefgmaaGreatDoor
open Go Go.Dm Go.RowKit Go.ChangeShapes Go.WideShapes
set_option maxRecDepth 100000
theorem zHq {W:World} {l:List (String × DataW Unit)} (h:laidMetH Tryz.prog l W.memory) (hn:(l.all fun x=>x.2.handleName?.isNone)=true) (hm:("pentimento/pentimentohand.kinds",(Rows.laid_pentimento_pentimentohand_kinds:DataW Unit))∈l):zIL W:=by
 rw [Go.MakeChecks.laidMetH_plain _ _ _ hn] at h;intro g j v hj
 match g,hj with
 | 0,hj =>
  simp only [said,List.getElem?_map,Option.map_eq_some_iff] at hj;obtain ⟨n,hn,rfl⟩:=hj;exact zDj h hm (vs:=zEp) rfl (by kernel_rfl) (by kernel_rfl) Tryz.underlying113 Tryz.underlying3 (by kernel_rfl) j n hn
 | g+1,hj=>simp [said] at hj
end Go.Proofs.YtlbfnbldeefgmaaGreatDoor
end
