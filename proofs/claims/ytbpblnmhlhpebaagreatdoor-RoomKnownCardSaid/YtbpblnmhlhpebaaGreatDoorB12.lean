/- Part 13 of the proof of roomKnown_card. No condition. -/
import Derived.Test.YtbpblnmhlhpebaaGreatDoorB11
set_option linter.all false
section
namespace Go.Dm
open Go
structure En where
 p:List UInt8
 k:Int
 o:Bool
 n:Nd
def En.cs (x:En):List PV:=[.s x.p,.i .i64 x.k,.b x.o,.i .i64 x.n.k,.i .i64 x.n.m,.f x.n.t,.sl 1 (cB x.n.d)]
def gN (l:List En):List (List PV):=l.map En.cs
theorem FJ (l:List En):(gN l).length=l.length:=by simp [gN]
theorem zGj:gN []=[]:=rfl
theorem yA {t:List En} {k:Nat} {x:En} (h:t[k]? = some x):(gN t).getD k []=[.s x.p,.i .i64 x.k,.b x.o,.i .i64 x.n.k,.i .i64 x.n.m,.f x.n.t,.sl 1 (cB x.n.d)]:=by
 simp only [gN,List.getD_eq_getElem?_getD,List.getElem?_map,h]
 rfl
theorem zGi (t:List En):(∀ x∈gN t,x.length=7)=True:=eq_true fun x hx=>by
 obtain ⟨y,_,rfl⟩:=List.mem_map.1 hx
 rfl
theorem ZM (a:List En) (n:Nat):(gN a).take n=gN (a.take n):=by simp [gN]
theorem zDL (a:List En) (n:Nat):(gN a).drop n=gN (a.drop n):=by simp [gN]
theorem TH (a b:List En):gN a++gN b=gN (a++b):=by simp [gN]
theorem zAw (t:List En) (p:List UInt8) (k:Int) (o:Bool) (nk nm:Int) (nt:Nat) (d:List UInt8):gN t++[[.s p,.i .i64 k,.b o,.i .i64 nk,.i .i64 nm,.f nt,.sl 1 (cB d)]]=gN (t++[⟨p,k,o,⟨nk,nm,nt,d⟩⟩]):=by simp [gN,En.cs]
theorem zJQ (x:En):En.mk x.p x.k x.o x.n=x:=rfl
attribute [go_sem] FJ zGj zGi ZM zDL TH zAw zJQ
def iD (x:En):Bool:=x.k == 2 || x.n.k != 2
def nD (t:List It) (x:En):Bool:=x.o || (iD x || !aY t x.p)
def goE (t:List It) (x:En) (y:It):Bool:=y.p == x.p || (nD t x && aP x.p y.p)
def mU (t:List It) (x:En):List It:=t.filter fun y=>!goE t x y
def kS (t:List It) (x:En):List It:=if x.k == 2 then mU t x else uV (mU t x) x.p x.n
def fB (t:List It) (l:List En):List It:=l.foldl kS t
def qC (t:List It) (l:List En):List It × Bool:=if mO (fB t l) then (fB t l,true) else ([],false)
theorem wN {t:List It} (h:Srt t) (x:En):Srt (mU t x):=h.filter _
theorem zAf {t:List It} (h:Srt t) (x:En):Srt (kS t x):=by
 unfold kS;split
 ·exact wN h x
 ·exact vT (wN h x)
theorem xT:∀ {l:List En} {t:List It},Srt t→Srt (fB t l)
 | [],_,h=>h
 | x::l,t,h=>xT (l:=l) (zAf h x)
theorem MI (t:List It) (x:En):(mU t x).length≤t.length:=List.length_filter_le ..
theorem KQ (t:List It) (x:En):(kS t x).length≤t.length+1:=by
 have:=MI t x
 have:=vS (mU t x) x.p x.n
 unfold kS;split <;> omega
theorem zFU {t:List It} {x:En}:∀ y∈mU t x,(y.p == x.p)=false:=fun y hy=>by
 have:=(List.mem_filter.1 hy).2
 simp only [goE,Bool.not_eq_true',Bool.or_eq_false_iff] at this
 exact this.1
theorem zAy {t:List It} {x:En} {y:It} (h:y∈kS t x):y=⟨x.p,x.n⟩∨y∈t:=by
 unfold kS at h
 split at h
 ·exact .inr (List.mem_filter.1 h).1
 ·rcases lT h with h|h
  ·exact .inl h
  ·exact .inr (List.mem_filter.1 h).1
end Go.Dm
namespace Go.Dm
open Go
def zGT (x:En):Bool:=!(x.p == []) && (cG x.p && (if x.k == 2 then !x.o && sC x.n else (x.k == 1 && aT x.n) && (!x.o || x.n.k == 2)))
structure OkE (l:List En):Prop where
 may:∀ x∈l,zGT x=true
 srt:l.Pairwise fun x y=>bL x.p y.p=true
 open_:l.Pairwise fun y x=>(iD y && aP y.p x.p)=false
 tlen:∀ x∈l,x.n.t<18446744073709551616
 len:l.length≤1000
theorem OkE.plen {l:List En} (h:OkE l):∀ x∈l,x.p.length≤120:=fun x hx=>by
 have:=h.may x hx
 simp only [zGT,Bool.and_eq_true] at this
 exact zV this.2.1
theorem OkE.dlen {l:List En} (h:OkE l):∀ x∈l,x.n.d.length≤2000:=fun x hx=>by
 have:=h.may x hx
 simp only [zGT,Bool.and_eq_true] at this
 have h2:=this.2.2
 split at h2
 ·simp only [Bool.and_eq_true,sC,beq_iff_eq] at h2
  omega
 ·simp only [Bool.and_eq_true] at h2
  exact gZ h2.1.2
end Go.Dm
namespace Go.Dm
open Go
theorem JI (t:List It) (l:List En):∀ k,(fB t (l.take k)).length≤t.length+k
 | 0=>by simp [fB]
 | k+1=>by
  have ih:=JI t l k
  rcases Nat.lt_or_ge k l.length with h|h
  ·have e:fB t (l.take (k+1))=kS (fB t (l.take k)) l[k]:=by
    unfold fB;rw [List.take_add_one,List.getElem?_eq_getElem h,List.foldl_append];rfl
   rw [e]
   have:=KQ (fB t (l.take k)) l[k]
   omega
  ·rw [List.take_of_length_le (by omega)]
   rw [List.take_of_length_le (by omega)] at ih
   omega
theorem wT {y:It}:∀ {l:List En} {t:List It},y∈fB t l→y∈t∨∃ x∈l,y=⟨x.p,x.n⟩
 | [],_,h=>.inl h
 | x::l,t,h=>by
  rcases wT (l:=l) (t:=kS t x) h with h|⟨z,hz,e⟩
  ·rcases zAy h with h|h
   ·exact .inr ⟨x,List.mem_cons_self,h⟩
   ·exact .inl h
  ·exact .inr ⟨z,List.mem_cons_of_mem _ hz,e⟩
end Go.Dm
end
namespace Go.Dm
open Go
section
def yY (ls:List (List En)):List (List PV):=ls.map fun l=>[.sl 7 (gN l)]
theorem RG (ls:List (List En)):(yY ls).length=ls.length:=by simp [yY]
theorem zF4:yY []=[]:=rfl
theorem zIy {t:List (List En)} {k:Nat} {x:List En} (h:t[k]? = some x):(yY t).getD k []=[.sl 7 (gN x)]:=by
 simp only [yY,List.getD_eq_getElem?_getD,List.getElem?_map,h]
 rfl
theorem zGz (t:List (List En)):(∀ x∈yY t,x.length=1)=True:=eq_true fun x hx=>by
 obtain ⟨y,_,rfl⟩:=List.mem_map.1 hx
 rfl
theorem zBs (a:List (List En)) (n:Nat):(yY a).take n=yY (a.take n):=by simp [yY]
theorem zCj (a:List (List En)) (n:Nat):(yY a).drop n=yY (a.drop n):=by simp [yY]
theorem zFM (a b:List (List En)):yY a++yY b=yY (a++b):=by simp [yY]
theorem zDr (t:List (List En)) (l:List En):yY t++[[.sl 7 (gN l)]]=yY (t++[l]):=by simp [yY]
attribute [go_sem] RG zF4 zGz zBs zCj zFM zDr
def oA:List It→List (List En)→List It × Bool
 | t,[]=>(t,true)
 | t,l::r=>if (qC t l).2 then oA (qC t l).1 r else ([],false)
theorem zEp {t:List It} {l:List En} (ht:OkT t) (hl:OkE l) (h:(qC t l).2=true):OkT (qC t l).1:=by
 unfold qC at h ⊢
 split at h
 ·rename_i hr
  rw [if_pos hr]
  refine zAz (fun y hy=>?_) hr
  rcases wT hy with hy|⟨x,hx,rfl⟩
  ·exact ht.tlen y hy
  ·exact hl.tlen x hx
 ·cases h
end
section
def isB (l:List (List UInt8)) (p:List UInt8):Bool:=l.any fun q=>q == p
def zAL (t:List It) (p:List UInt8):Bool:=!(p == []) && aY t p
def KK (t w:List It) (p:List UInt8):Bool:=t.any fun y=>(aQ w y.p).isSome && aP p y.p
def zDf (t w:List It) (x:It):Bool:=(x.n.k == 2 && (zAL t x.p && !decide (((gP t x.p).length:Int)<2))) && !KK t w x.p
def jI (t w:List It):List (List UInt8):=(w.filter (zDf t w)).map fun x=>x.p
def QJ (t:List It) (os:List (List UInt8)) (x:It):List En :=
 if isB os x.p then [⟨x.p,1,true,x.n⟩] else if (!(aQ t x.p).isSome || !jF ((aQ t x.p).getD nd0) x.n) then [⟨x.p,1,false,x.n⟩] else []
def iB (t:List It) (os:List (List UInt8)) (w:List It):List En:=w.flatMap (QJ t os)
def zD4 (w:List It) (os:List (List UInt8)):Nat→List UInt8→Bool
 | 0,_=>false
 | n+1,q=>if q == [] then false else if (!(aQ w q).isSome || (((aQ w q).getD nd0).k != 2 || isB os q)) then true else zD4 w os n (aR q)
def GU (w:List It) (os:List (List UInt8)) (p:List UInt8):Bool:=zD4 w os p.length (aR p)
def zLj (l:List En) (p:List UInt8):Nat:=(l.takeWhile fun x=>bL x.p p).length
def zD2 (l:List En) (e:En):List En:=l.take (zLj l e.p)++e::l.drop (zLj l e.p)
def kQ (p:List UInt8):En:=⟨p,2,false,nd0⟩
def MU (w:List It) (os:List (List UInt8)) (out:List En) (y:It):List En :=
 if ((aQ w y.p).isSome || GU w os y.p) then out else zD2 out (kQ y.p)
def dY (t w:List It):List En:=t.foldl (MU w (jI t w)) (iB t (jI t w) w)
theorem zCC (p:List UInt8):(aR p).length≤p.length:=by
 by_cases h:aR p=[]
 ·rw [h];exact Nat.zero_le _
 ·exact Nat.le_of_lt (rY h)
theorem zIw (l:List En) (p:List UInt8):zLj l p≤l.length:=(List.takeWhile_sublist _).length_le
theorem zET (l:List En) (e:En):(zD2 l e).length=l.length+1:=by
 have:=zIw l e.p
 simp only [zD2,List.length_append,List.length_cons,List.length_take,List.length_drop]
 omega
theorem zEN (t:List It) (os:List (List UInt8)) (x:It):(QJ t os x).length≤1:=by
 unfold QJ;split
 ·exact Nat.le_refl _
 ·split
  ·exact Nat.le_refl _
  ·exact Nat.zero_le _
theorem sA (t:List It) (os:List (List UInt8)):∀ w:List It,(iB t os w).length≤w.length
 | []=>Nat.le_refl _
 | x::w=>by
  have h1:=zEN t os x
  have h2:=sA t os w
  unfold iB at h2 ⊢
  rw [List.flatMap_cons,List.length_append,List.length_cons]
  omega
theorem XV {t:List It} {os:List (List UInt8)} {w:List It} {k:Nat} {x:It} (h:w[k]? = some x):iB t os (w.take (k+1))=iB t os (w.take k)++QJ t os x:=by
 unfold iB
 rw [List.take_add_one,h,List.flatMap_append]
 simp
theorem zDz (w:List It) (os:List (List UInt8)) (out:List En) (y:It):(MU w os out y).length≤out.length+1:=by
 unfold MU;split
 ·omega
 ·rw [zET];omega
theorem xE {w:List It} {os:List (List UInt8)} {n:Nat} {q:List UInt8} (h:q≠[]):zD4 w os (n+1) q=if (!(aQ w q).isSome || (((aQ w q).getD nd0).k != 2 || isB os q)) then true else zD4 w os n (aR q):=by
 rw [zD4,if_neg (by simpa using h)]
theorem RT {w:List It} {os:List (List UInt8)}:∀ n:Nat,zD4 w os n []=false
 | 0=>rfl
 | n+1=>by rw [zD4];simp
end
section
theorem qN {t:List It} {b:List UInt8} (h:Par t) (hb:b≠[]):∀ (n:Nat) (q:List UInt8),q.length≤n→(aQ t q).isSome=true→aP b q=true→∃ m,aQ t b=some m∧(m.k == 2)=true
 | 0,q,hl,_,hq=>by
  have h1:q=[]:=by simpa using hl
  subst h1
  have h2:=dW hq
  have:b=[]:=by simpa using h2
  exact absurd this hb
 | n+1,q,hl,hs,hq=>by
  obtain ⟨m,hm⟩:=Option.isSome_iff_exists.1 hs
  obtain ⟨x,hx,rfl,_⟩:=cH hm
  have hdx:=h x hx
  rcases iK hb hq with h1|h1
  ·rw [h1] at hdx
   obtain ⟨m,h2,h3⟩:=cN hb hdx
   exact ⟨m,h2,by first|exact h3|simpa using h3⟩
  ·have h0:aR x.p≠[]:=by
    intro h0
    rw [h0] at h1
    have:=dW h1
    have:b=[]:=by simpa using this
    exact absurd this hb
   obtain ⟨m,h2,_⟩:=cN h0 hdx
   have hlt:=rY h0
   exact qN h hb n _ (by omega) (by rw [h2];rfl) h1
theorem HX {w:List It} {os:List (List UInt8)} {a:List UInt8} (ha:a≠[]):∀ (n:Nat) (q:List UInt8),q.length≤n→zD4 w os n q=false→(q=a∨aP a q=true)→(∃ m,aQ w a=some m∧(m.k == 2)=true)∧isB os a=false
 | 0,q,hl,_,hq=>by
  have h1:q=[]:=by simpa using hl
  subst h1
  rcases hq with hq|hq
  ·exact absurd hq.symm ha
  ·have h2:=dW hq
   have:a=[]:=by simpa using h2
   exact absurd this ha
 | n+1,q,hl,hc,hq=>by
  by_cases h0:q=[]
  ·subst h0
   rcases hq with hq|hq
   ·exact absurd hq.symm ha
   ·have h2:=dW hq
    have:a=[]:=by simpa using h2
    exact absurd this ha
  ·rw [xE h0] at hc
   split at hc
   ·cases hc
   ·rename_i h1
    simp only [Bool.not_eq_true,Bool.or_eq_false_iff] at h1
    obtain ⟨h2,h3,h4⟩:=h1
    rcases hq with rfl|hq
    ·refine ⟨?_,h4⟩
     cases hg:aQ w q with
     | none=>rw [hg] at h2;simp at h2
     | some m=>rw [hg] at h3;exact ⟨m,rfl,by simpa using h3⟩
    ·have hdl:(aR q).length≤n:=by
      by_cases h:aR q=[]
      ·rw [h];exact Nat.zero_le _
      ·have:=rY h;omega
     exact HX ha n _ hdl hc (iK ha hq)
theorem zA7 {w:List It} {os:List (List UInt8)} {a p:List UInt8} (ha:a≠[]) (hc:GU w os p=false) (hb:aP a p=true):(∃ m,aQ w a=some m∧(m.k == 2)=true)∧isB os a=false :=
 HX ha _ _ (zCC p) hc (iK ha hb)
theorem jM {t:List It} {os:List (List UInt8)} {w:List It} {e:En} (h:e∈iB t os w):∃ x∈w,e=⟨x.p,1,isB os x.p,x.n⟩:=by
 unfold iB at h
 obtain ⟨x,hx,h⟩:=List.mem_flatMap.1 h
 refine ⟨x,hx,?_⟩
 unfold QJ at h
 split at h
 ·rename_i h1;rw [List.mem_singleton.1 h,h1]
 ·rename_i h1
  split at h
  ·rw [List.mem_singleton.1 h];simp only [Bool.not_eq_true] at h1;rw [h1]
  ·simp at h
def ZG (l:List En):Prop:=l.Pairwise fun x y=>bL x.p y.p=true
theorem JC (y:En) (l:List En) (e:En):zD2 (y::l) e=if bL y.p e.p then y::zD2 l e else e::y::l:=by
 unfold zD2 zLj
 rw [List.takeWhile_cons]
 split <;> simp
theorem RM (e:En):zD2 [] e=[e]:=rfl
theorem DU {l:List En} {e x:En}:x∈zD2 l e↔x∈l∨x=e:=by
 induction l with
 | nil=>simp [RM]
 | cons y l ih =>
  rw [JC]
  split
  ·rw [List.mem_cons,ih,List.mem_cons,or_assoc]
  ·simp only [List.mem_cons]
   constructor
   ·rintro (h|h|h)
    ·exact .inr h
    ·exact .inl (.inl h)
    ·exact .inl (.inr h)
   ·rintro ((h|h)|h)
    ·exact .inr (.inl h)
    ·exact .inr (.inr h)
    ·exact .inl h
theorem zFq {l:List En} {e:En} (h:ZG l) (hn:∀ x∈l,x.p≠e.p):ZG (zD2 l e):=by
 induction l with
 | nil=>rw [RM];exact List.pairwise_singleton _ _
 | cons y l ih =>
  obtain ⟨h1,h2⟩:=List.pairwise_cons.1 h
  rw [JC]
  split
  ·rename_i hb
   refine List.pairwise_cons.2 ⟨fun x hx=>?_,ih h2 fun x hx=>hn x (List.mem_cons_of_mem _ hx)⟩
   rcases DU.1 hx with hx|rfl
   ·exact h1 x hx
   ·exact hb
  ·rename_i hb
   have hlt:bL e.p y.p=true:=by
    cases hc:bL e.p y.p
    ·exact absurd (dX (by simpa using hb) hc) (hn y List.mem_cons_self)
    ·rfl
   refine List.pairwise_cons.2 ⟨fun x hx=>?_,h⟩
   rcases List.mem_cons.1 hx with rfl|hx
   ·exact hlt
   ·exact cF hlt (h1 x hx)
theorem KX {t:List It} {os:List (List UInt8)} {w:List It} (h:Srt w):ZG (iB t os w):=by
 induction w with
 | nil=>exact List.Pairwise.nil
 | cons x w ih =>
  obtain ⟨h1,h2⟩:=List.pairwise_cons.1 h
  have e:iB t os (x::w)=QJ t os x++iB t os w:=by unfold iB;rw [List.flatMap_cons]
  rw [e]
  have hl:∀ y∈QJ t os x,y.p=x.p:=fun y hy=>by
   have:y∈iB t os [x]:=by unfold iB;simpa using hy
   obtain ⟨z,hz,e⟩:=jM this
   rw [List.mem_singleton.1 hz] at e
   rw [e]
  refine List.pairwise_append.2 ⟨?_,ih h2,fun y hy z hz=>?_⟩
  ·unfold QJ
   split
   ·exact List.pairwise_singleton _ _
   ·split
    ·exact List.pairwise_singleton _ _
    ·exact List.Pairwise.nil
  ·obtain ⟨v,hv,e⟩:=jM hz
   rw [hl y hy,e]
   exact h1 v hv
theorem GH {w:List It} {os:List (List UInt8)}:∀ {r:List It} {out:List En},Srt r→ZG out→(∀ e∈out,∀ y∈r,(aQ w y.p).isSome=false→e.p≠y.p) →
  ZG (r.foldl (MU w os) out)∧∀ e,e∈r.foldl (MU w os) out↔e∈out∨∃ y∈r,e=kQ y.p∧(aQ w y.p).isSome=false∧GU w os y.p=false
 | [],out,_,h,_=>⟨h,fun e=>by simp⟩
 | y::r,out,hr,h,hn=>by
  obtain ⟨h1,h2⟩:=List.pairwise_cons.1 hr
  rw [List.foldl_cons]
  unfold MU
  split
  ·rename_i hc
   obtain ⟨h3,h4⟩:=GH (w:=w) (os:=os) h2 h fun e he z hz=>hn e he z (List.mem_cons_of_mem _ hz)
   refine ⟨h3,fun e=>(h4 e).trans ?_⟩
   constructor
   ·rintro (h|⟨z,hz,h⟩)
    ·exact .inl h
    ·exact .inr ⟨z,List.mem_cons_of_mem _ hz,h⟩
   ·rintro (h|⟨z,hz,h,h5,h6⟩)
    ·exact .inl h
    ·rcases List.mem_cons.1 hz with rfl|hz
     ·rw [h5,h6] at hc;cases hc
     ·exact .inr ⟨z,hz,h,h5,h6⟩
  ·rename_i hc
   simp only [Bool.not_eq_true,Bool.or_eq_false_iff] at hc
   have hs:=zFq (e:=kQ y.p) h fun x hx=>hn x hx y List.mem_cons_self hc.1
   obtain ⟨h3,h4⟩:=GH (w:=w) (os:=os) (out:=zD2 out (kQ y.p)) h2 hs fun e he z hz hg=>by
    rcases DU.1 he with he|rfl
    ·exact hn e he z (List.mem_cons_of_mem _ hz) hg
    ·intro e2
     have:=h1 z hz
     rw [show (kQ y.p).p=y.p from rfl] at e2
     rw [e2,bY] at this
     cases this
   refine ⟨h3,fun e=>(h4 e).trans ?_⟩
   rw [DU]
   constructor
   ·rintro ((h|h)|⟨z,hz,h⟩)
    ·exact .inl h
    ·exact .inr ⟨y,List.mem_cons_self,h,hc⟩
    ·exact .inr ⟨z,List.mem_cons_of_mem _ hz,h⟩
   ·rintro (h|⟨z,hz,h⟩)
    ·exact .inl (.inl h)
    ·rcases List.mem_cons.1 hz with rfl|hz
     ·exact .inl (.inr h.1)
     ·exact .inr ⟨z,hz,h⟩
theorem JL (w:List It) (os:List (List UInt8)):∀ (r:List It) (out:List En),(r.foldl (MU w os) out).length≤out.length+r.length
 | [],out=>Nat.le_refl _
 | y::r,out=>by
  have h1:=zDz w os out y
  have h2:=JL w os r (MU w os out y)
  rw [List.foldl_cons,List.length_cons]
  omega
theorem PY {w:List It} {p:List UInt8} (h:(aQ w p).isSome=false):∀ x∈w,Srt w→x.p≠p:=fun x hx hs e=>by
 rw [← e,cW hs hx] at h
 cases h
theorem lY {t w:List It} (ht:OkT t) (hw:OkT w):ZG (dY t w)∧∀ e,e∈dY t w↔e∈iB t (jI t w) w∨∃ y∈t,e=kQ y.p∧(aQ w y.p).isSome=false∧GU w (jI t w) y.p=false :=
 GH ht.srt (KX hw.srt) fun e he y _ hg=>by
  obtain ⟨x,hx,rfl⟩:=jM he
  exact PY hg x hx hw.srt
theorem DR {t w:List It} (hw:OkT w) {x:It} (hx:x∈w) (h:isB (jI t w) x.p=true):zDf t w x=true:=by
 unfold isB jI at h
 rw [List.any_eq_true] at h
 obtain ⟨q,hq,e⟩:=h
 obtain ⟨z,hz,rfl⟩:=List.mem_map.1 hq
 obtain ⟨hz,hb⟩:=List.mem_filter.1 hz
 have e:=eq_of_beq e
 have h1:=cW hw.srt hz
 have h2:=cW hw.srt hx
 rw [e,h2] at h1
 have hn:x.n=z.n:=Option.some.inj h1
 have:x=z:=by cases x;cases z;simp only at e hn;subst e;subst hn;rfl
 rw [this];exact hb
theorem PI {t w:List It} (ht:OkT t) (hw:OkT w):OkE (dY t w):=by
 obtain ⟨hs,hm⟩:=lY ht hw
 have hc:∀ e∈dY t w,(∃ x∈w,e=⟨x.p,1,isB (jI t w) x.p,x.n⟩)∨∃ y∈t,e=kQ y.p∧(aQ w y.p).isSome=false∧GU w (jI t w) y.p=false:=fun e he=>by
  rcases (hm e).1 he with h|h
  ·exact .inl (jM h)
  ·exact .inr h
 refine ⟨fun e he=>?_,hs,List.pairwise_iff_getElem.2 fun i j hi hj _=>?_,fun e he=>?_,?_⟩
 ·rcases hc e he with ⟨x,hx,rfl⟩|⟨y,hy,rfl,_⟩
  ·obtain ⟨h1,h2,h3,_⟩:=hw.its x hx
   have h1:(x.p == [])=false:=by simpa using h1
   simp only [zGT,h1,h2,h3,Bool.not_false,Bool.true_and,show ((1:Int) == 2)=false from rfl,show ((1:Int) == 1)=true from rfl,Bool.false_eq_true,if_false]
   cases ho:isB (jI t w) x.p
   ·rfl
   ·have:=DR hw hx ho
    unfold zDf at this
    simp only [Bool.and_eq_true] at this
    rw [this.1.1];rfl
  ·obtain ⟨h1,h2,_⟩:=ht.its y hy
   have h1:(y.p == [])=false:=by simpa using h1
   simp only [zGT,kQ,h1,h2]
   rfl
 ·have hy:=hc _ (List.getElem_mem hi)
  have hx:=hc _ (List.getElem_mem hj)
  generalize (dY t w)[i]=y at hy
  generalize (dY t w)[j]=x at hx
  cases hsh:iD y
  ·rfl
  ·cases hb:aP y.p x.p
   ·rfl
   ·exfalso
    have hyp:y.p≠[]:=by
     rcases hy with ⟨v,hv,rfl⟩|⟨v,hv,rfl,_⟩
     ·exact hw.ne v hv
     ·exact ht.ne v hv
    have hdir:∃ m,aQ w y.p=some m∧(m.k == 2)=true:=by
     rcases hx with ⟨v,hv,rfl⟩|⟨v,hv,rfl,_,h6⟩
     ·exact qN hw.par hyp _ _ (Nat.le_refl _) (by rw [cW hw.srt hv];rfl) hb
     ·exact (zA7 hyp h6 hb).1
    obtain ⟨m,h1,h2⟩:=hdir
    rcases hy with ⟨v,hv,rfl⟩|⟨v,hv,rfl,h5,_⟩
    ·rw [show (En.mk v.p 1 (isB (jI t w) v.p) v.n).p=v.p from rfl,cW hw.srt hv] at h1
     have h1:=Option.some.inj h1
     unfold iD at hsh
     simp only [h1,bne,h2] at hsh
     cases hsh
    ·rw [show (kQ v.p).p=v.p from rfl] at h1
     rw [h1] at h5
     cases h5
 ·rcases hc e he with ⟨x,hx,rfl⟩|⟨y,hy,rfl,_⟩
  ·exact hw.tlen x hx
  ·show (0:Nat)<18446744073709551616;decide
 ·have h1:=JL w (jI t w) t (iB t (jI t w) w)
  have h2:=sA t (jI t w) w
  have h3:=ht.len
  have h4:=hw.len
  unfold dY
  omega
end
section
def BG:En:=⟨[],0,false,nd0⟩
def En.cv (x:En):List CV:=[.p (.s x.p),.p (.i .i64 x.k),.p (.b x.o),.p (.i .i64 x.n.k),.p (.i .i64 x.n.m),.p (.f x.n.t),.p (.sl 1 (cB x.n.d))]
def iF (l:List En) (p:List UInt8):Option En:=l.find? fun x=>x.p == p
def shF (l:List En):Nat→List UInt8→Bool
 | 0,_=>false
 | n+1,q=>if q == [] then false else if ((iF l q).isSome && (((iF l q).getD BG).k == 2 || (((iF l q).getD BG).o || ((iF l q).getD BG).n.k != 2))) then true else shF l n (aR q)
def zAD (l:List En) (p:List UInt8):Bool:=shF l p.length (aR p)
theorem zGv {l:List En} {n:Nat} {q:List UInt8} (h:q≠[]):shF l (n+1) q=if ((iF l q).isSome && (((iF l q).getD BG).k == 2 || (((iF l q).getD BG).o || ((iF l q).getD BG).n.k != 2))) then true else shF l n (aR q):=by
 rw [shF,if_neg (by simpa using h)]
theorem zIl {l:List En}:∀ n:Nat,shF l n []=false
 | 0=>rfl
 | n+1=>by rw [shF];simp
end
section
def zIe (l:List (List RI)):List (List PV):=l.map fun x=>[.sl 6 (encI x)]
def zIA (l:List (List RU)):List (List PV):=l.map fun x=>[.sl 8 (zKg x)]
def NJ (l:List (List It)):List (List PV):=l.map fun x=>[.sl 5 (aV x)]
theorem zA8 (l:List (List RI)):(zIe l).length=l.length:=by simp [zIe]
theorem zDl (l:List (List RU)):(zIA l).length=l.length:=by simp [zIA]
theorem zB6 (l:List (List It)):(NJ l).length=l.length:=by simp [NJ]
theorem zAv (t:List (List RI)):(∀ x∈zIe t,x.length=1)=True:=eq_true fun x hx=>by
 obtain ⟨y,_,rfl⟩:=List.mem_map.1 hx;rfl
theorem zCd (t:List (List RU)):(∀ x∈zIA t,x.length=1)=True:=eq_true fun x hx=>by
 obtain ⟨y,_,rfl⟩:=List.mem_map.1 hx;rfl
theorem zDv (t:List (List It)):(∀ x∈NJ t,x.length=1)=True:=eq_true fun x hx=>by
 obtain ⟨y,_,rfl⟩:=List.mem_map.1 hx;rfl
theorem XL (t:List (List It)) (l:List It):NJ t++[[.sl 5 (aV l)]]=NJ (t++[l]):=by simp [NJ]
theorem zDu:NJ []=[]:=rfl
attribute [go_sem] zA8 zDl zB6 zAv zCd zDv XL zDu
end
end Go.Dm
