/- Part 26 of the proof of roomKnown_card. No condition. -/
import Derived.Test.YtbpblnmhlhpebaaGreatDoorB24
import Derived.Test.YtbpblnmhlhpebaaGreatDoorB18
set_option linter.all false
set_option maxRecDepth 100000
set_option maxHeartbeats 8000000
namespace Go.Dm
open Go
section
def eD (r:Rm) (s:List UInt8):List It × Int:=if !((bQ r s).2 == 0) then ([],(bQ r s).2) else (treeR r (bQ r s).1.i,0)
theorem iS {r:Rm} {d:Dr} (h:SimW r d) (s:List UInt8):eD r s=lX d s:=by
 unfold eD lX
 cases hn:sV d.N s with
 | none =>
  obtain ⟨h1,h2⟩:=dG h hn
  rw [h1,h2];rfl
 | some n =>
  obtain ⟨y,hy,h1,h2,h3,h4,h5⟩:=dF h hn
  rw [h1,h2,h5]
  show (treeR r y.1.i,(0:Int))=(cQ d y.1.i,0)
  rw [h.treeR]
theorem zAd {d:Dr} (h:OkW d) (s:List UInt8):OkT (lX d s).1:=by
 unfold lX
 split
 ·exact OkT.nil
 ·exact h.tree _
def zF1 (r:Rm) (l:Ly) (t:List It):Rm:=if gJ (treeR r l.i) t then r else ⟨r.N,r.L,mW r.E l.i (dY (treeR r l.p) t),r.x⟩
theorem JJ {r:Rm} {d:Dr} (h:Sim r d) {y:Ly × List It} (hy:y∈d.L) {t:List It} (ht:OkT t) (hf:t=y.2∨y.1.f=false):Sim (zF1 r y.1 t) (oZ d y.1.i t):=by
 have e:=iR h.g.inc hy
 unfold zF1
 rw [h.toSimW.treeR,h.toSimW.treeR,e]
 cases hs:gJ y.2 t
 ·rw [if_neg (by decide)]
  rcases hf with rfl|hf
  ·rw [QP (h.t y hy)] at hs;cases hs
  ·exact zIW h hy hf ht
 ·rw [if_pos rfl]
  have:=JR (fun x hx=>fV ((h.t y hy).its x hx).2.2.1 ((h.t y hy).tlen x hx)) (fun x hx=>fV (ht.its x hx).2.2.1 (ht.tlen x hx)) hs
  rw [← this,← e,JF h.g.inc]
  exact h
def zD1 (r:Rm) (s:List UInt8) (c:Cl):Rm × An :=
 if !((bQ r s).2 == 0) then (r,anE (bQ r s).2) else if (bQ r s).1.f && lH c.k then (r,anE 14)
 else (zF1 r (bQ r s).1 (doP (treeR r (bQ r s).1.i) c).1,(doP (treeR r (bQ r s).1.i) c).2)
theorem zJB {r:Rm} {d:Dr} (h:Sim r d) (s:List UInt8) {c:Cl} (hc:c.t<18446744073709551616):(zD1 r s c).2=(doD d s c).2∧Sim (zD1 r s c).1 (doD d s c).1:=by
 unfold zD1 doD
 cases hn:sV d.N s with
 | none =>
  obtain ⟨h1,h2⟩:=dG h.toSimW hn
  rw [h1,h2];exact ⟨rfl,h⟩
 | some n =>
  obtain ⟨y,hy,h1,h2,h3,h4,h5⟩:=dF h.toSimW hn
  have hy2:=h.t y hy
  rw [h1,h2,h5,iX h3,eE h3]
  rw [show (!((0:Int) == 0))=false from rfl]
  simp only [Bool.false_eq_true,if_false]
  rw [h.toSimW.treeR,eE h3,← zLo hy2]
  cases hft:y.1.f && lH c.k
  ·simp only [Bool.false_eq_true,if_false]
   cases he:((doP y.2 c).2.e == 0)
   ·simp only [Bool.not_false,if_true,true_and]
    have e1:=zHt (t:=y.2) (c:=c) (by simpa using he)
    rw [e1]
    have:=JJ h hy hy2 (.inl rfl)
    rw [show oZ d y.1.i y.2=d by rw [← eE h3,JF h.g.inc]] at this
    exact this
   ·simp only [Bool.not_true,Bool.false_eq_true,if_false,true_and]
    refine JJ h hy (zKG hy2 hc) ?_
    cases hf:y.1.f
    ·exact .inr rfl
    ·rw [hf,Bool.true_and] at hft
     exact .inl (zIQ hft)
  ·exact ⟨rfl,h⟩
def eZ (b o t:List It):List It × List Cf × Int :=
 if decide (0<((dZ b o t).2.length:Int)) then ([],(dZ b o t).2,17) else if decide (120<((dZ b o t).1.length:Int)) then ([],[],16) else ((dZ b o t).1,[],0)
def eA (r:Rm) (o t:List UInt8):Ly × Ly × Int :=
 if !((bQ r o).2 == 0) then ((bQ r o).1,(bQ r o).1,(bQ r o).2)
 else ((bQ r o).1,(bQ r t).1,if (bQ r t).2 == 0 && (!(bQ r o).1.f || !(bQ r t).1.f) then 13 else (bQ r t).2)
def mK (r:Rm) (o t s:List UInt8):Rm × List Cf × Int :=
 if !((eA r o t).2.2 == 0) then (r,[],(eA r o t).2.2) else if !(gG r s == 0) then (r,[],gG r s) else if !(gO r (eA r o t).1.i == 0) then (r,[],gO r (eA r o t).1.i)
 else
  let m:=eZ (treeR r (AO r.L (eA r o t).1.i (eA r o t).2.1.i)) (treeR r (eA r o t).1.i) (treeR r (eA r o t).2.1.i)
  if !(m.2.2 == 0) then (r,m.2.1,m.2.2)
  else (ZJ r s (eA r o t).1.i (if (eA r o t).1.i == (eA r o t).2.1.i then 0 else (eA r o t).2.1.i) (dY (treeR r (eA r o t).1.i) m.1),[],0)
def uJ (d:Dr) (o t s:List UInt8):Dr × List Cf × Int :=
 if bN d.N o == 0 || bN d.N t == 0 then (d,[],6) else if !gU d (bN d.N o) || !gU d (bN d.N t) then (d,[],13) else if !(kK d s == 0) then (d,[],kK d s) else if rJ d (bN d.N o) then (d,[],15)
 else
  let m:=dZ (cQ d (AO d.G (bN d.N o) (bN d.N t))) (cQ d (bN d.N o)) (cQ d (bN d.N t))
  if decide (0<(m.2.length:Int)) then (d,m.2,17) else if decide (120<(m.1.length:Int)) then (d,[],16)
  else (uY d s (bN d.N o) (if bN d.N t == bN d.N o then 0 else bN d.N t) m.1,[],0)
theorem wZ {b o t:List It} (hb:OkT b) (ho:OkT o) (ht:OkT t) (h1:¬ 0<(dZ b o t).2.length) (h2:¬ 120<(dZ b o t).1.length):OkT (dZ b o t).1:=by
 unfold dZ at h1 h2 ⊢
 split at h1
 ·rename_i hz
  rw [if_pos hz] at h2 ⊢
  exact zIS hb ho ht (eq_of_beq hz) (by simp only at h2;omega)
 ·rename_i hz
  simp only at h1
  exact absurd (show ((ZI b o t).length == 0)=true by simp;exact List.eq_nil_of_length_eq_zero (by omega)) hz
theorem zCD {r:Rm} {d:Dr} (h:Sim r d) (o t s:List UInt8):(mK r o t s).2=(uJ d o t s).2∧Sim (mK r o t s).1 (uJ d o t s).1:=by
 unfold mK uJ eA
 cases hn:sV d.N o with
 | none =>
  obtain ⟨h1,h2⟩:=dG h.toSimW hn
  rw [h1,h2];exact ⟨rfl,h⟩
 | some n =>
  obtain ⟨y,hy,h1,h2,h3,h4,h5⟩:=dF h.toSimW hn
  have hy2:=h.t y hy
  rw [h1,h2,h5,iX h3,eE h3]
  rw [show (!((0:Int) == 0))=false from rfl]
  simp only [Bool.false_eq_true,if_false,Bool.false_or]
  cases hnt:sV d.N t with
  | none =>
   obtain ⟨k1,k2⟩:=dG h.toSimW hnt
   rw [k1,k2];exact ⟨rfl,h⟩
  | some m =>
   obtain ⟨z,hz,k1,k2,k3,k4,k5⟩:=dF h.toSimW hnt
   have hz2:=h.t z hz
   rw [k1,k2,k5,iX k3,eE k3]
   rw [show ((0:Int) == 0)=true from rfl]
   simp only [Bool.true_and,Bool.false_eq_true,if_false]
   cases hfr2:(!y.1.f || !z.1.f)
   rotate_left 1
   ·exact ⟨rfl,h⟩
   ·simp only [Bool.false_eq_true,if_false]
    rw [show (!((0:Int) == 0))=false from rfl]
    simp only [Bool.false_eq_true,if_false]
    simp only [Bool.or_eq_false_iff,Bool.not_eq_false'] at hfr2
    rw [oE h.toSimW]
    cases hfr:(kK d s == 0)
    ·exact ⟨rfl,h⟩
    ·simp only [Bool.not_true,Bool.false_eq_true,if_false]
     rw [lM h.toSimW,Bool.not_not]
     cases hd:rJ d y.1.i
     ·simp only [Bool.false_eq_true,if_false]
      obtain ⟨f1,f2,f3,f4,f5⟩:=oU hfr
      rw [h.toSimW.treeR,h.toSimW.treeR,h.toSimW.treeR,eE h3,eE k3,h.L]
      unfold eZ
      have hbk:=h.toOkW.tree (AO d.G y.1.i z.1.i)
      generalize cQ d (AO d.G y.1.i z.1.i)=b at hbk ⊢
      cases hc1:decide (0<((dZ b y.2 z.2).2.length:Int))
      ·simp only [Bool.false_eq_true,if_false]
       cases hc2:decide (120<((dZ b y.2 z.2).1.length:Int))
       ·simp only [Bool.false_eq_true,if_false]
        rw [show (!((0:Int) == 0))=false from rfl]
        simp only [Bool.false_eq_true,if_false,true_and]
        simp only [decide_eq_false_iff_not] at hc1 hc2
        have hok:=wZ hbk hy2 hz2 (by omega) (by omega)
        have hq:(if y.1.i == z.1.i then (0:Int) else z.1.i)=(if z.1.i == y.1.i then 0 else z.1.i):=by
         by_cases e:y.1.i=z.1.i
         ·rw [if_pos (by simpa using e),if_pos (by simpa using e.symm)]
         ·rw [if_neg (by simpa using e),if_neg (by simpa using fun e'=>e e'.symm)]
        rw [hq]
        refine FE h.toSimW f1 ⟨y,hy,rfl,hfr2.1⟩ ?_ (oI hd) hok f5 (by have:=hY d.N s d.x;omega) (by rw [eE h3]) ?_
        ·by_cases e:z.1.i=y.1.i
         ·exact .inl (if_pos (by simpa using e))
         ·right
          rw [if_neg (by simpa using e)]
          exact ⟨fun e'=>e e'.symm,z,hz,rfl,hfr2.2⟩
        ·have:=vX (iN d s y.1.i (if z.1.i == y.1.i then 0 else z.1.i) (dZ b y.2 z.2).1) (vL h.toOkW _ _ _ _)
         have e:(iN d s y.1.i (if z.1.i == y.1.i then 0 else z.1.i) (dZ b y.2 z.2).1).L.length=d.L.length+1:=by show (d.L++[_]).length=_;rw [List.length_append];rfl
         rw [vH];omega
       ·exact ⟨rfl,h⟩
      ·exact ⟨rfl,h⟩
     ·simp only [if_true]
      rw [DY r y.1.i (by rw [lM h.toSimW,hd];rfl)]
      exact ⟨rfl,h⟩
def iQ (r:Rm) (s onto:List UInt8):Rm × List Cf × Int :=
 if !((wsP r s).2 == 0) then (r,[],(wsP r s).2) else if !((snP r onto).2 == 0) then (r,[],(snP r onto).2) else if !(gO r (snP r onto).1.i == 0) then (r,[],gO r (snP r onto).1.i)
 else
  let m:=eZ (treeR r (wsP r s).1.p) (treeR r (snP r onto).1.i) (treeR r (wsP r s).1.i)
  if !(m.2.2 == 0) then (r,m.2.1,m.2.2) else if decide (2147483647≤r.x) then (r,[],16)
  else (ZJ r s (snP r onto).1.i 0 (dY (treeR r (snP r onto).1.i) m.1),[],0)
def zLa (d:Dr) (id:Int):Int:=match pR d id with
 | some y=>y.1.p
 | none=>0
def pS (d:Dr) (s onto:List UInt8):Dr × List Cf × Int :=
 if bN d.N s == 0 then (d,[],6) else if gU d (bN d.N s) then (d,[],14) else if bN d.N onto == 0 then (d,[],6) else if !gU d (bN d.N onto) then (d,[],13) else if rJ d (bN d.N onto) then (d,[],15)
 else
  let m:=dZ (cQ d (zLa d (bN d.N s))) (cQ d (bN d.N onto)) (cQ d (bN d.N s))
  if decide (0<(m.2.length:Int)) then (d,m.2,17) else if decide (120<(m.1.length:Int)) || decide (2147483647≤d.x) then (d,[],16)
  else (uY d s (bN d.N onto) 0 m.1,[],0)
theorem YQ {d:Dr} (h:OkW d) {s:List UInt8} {n:Nm} (hn:sV d.N s=some n) {y:Ly × List It} (hy:y∈d.L) (hyn:y.1.i=n.l) (hf:y.1.f=false) {p:Int} (hp:AE d p) (hc:(bO d.G p).length≤11) {t:List It} (hx:d.x<2147483647):(uY d s p 0 t).L.length≤d.L.length:=by
 obtain ⟨g1,g2⟩:=fC hn
 have hinc:=vL h s p 0 t
 have hz:∀ x∈d.G,x.i<d.x:=fun x hx=>by
  obtain ⟨w,hw,rfl⟩:=EO.1 hx
  exact h.nx.1 w hw
 have hg:OkG (iN d s p 0 t).G:=by
  rw [RJ]
  exact zBa h.g hz ⟨h.nx.2.1,by simp only;omega⟩ (tG hp) (.inl rfl) (fun h0=>absurd rfl h0) hc
 have hno:sS (iN d s p 0 t).G (mL (iN d s p 0 t).N) y.1.i=false:=by
  rw [Bool.eq_false_iff]
  intro hk
  obtain ⟨m,hm,ha⟩:=zBf hk
  rcases VS hg ha with e|⟨w,hw,e1,e2⟩
  ·rcases (rB h.srt).1 hm with rfl|⟨m1,m2⟩
   ·have:=h.nx.1 y hy
    simp only at e;omega
   ·have:=h.one n g1 m m1 (by omega) fun z hz hzn=>by rw [zGr h.g.inc hz hy (by omega)];exact hf
    subst this
    exact m2 g2
  ·obtain ⟨w',hw',rfl⟩:=EO.1 hw
   rcases List.mem_append.1 (show w'∈d.L++[_] from hw') with h1|h1
   ·rw [zGr h.g.inc h1 hy e1,hf] at e2;cases e2
   ·rw [List.mem_singleton] at h1;subst h1
    cases e2
 rw [vH]
 show (WN (iN d s p 0 t)).length≤_
 rw [wG hinc]
 have hm:y∈(iN d s p 0 t).L:=show y∈d.L++[_] from List.mem_append_left _ hy
 have h1:∀ {l:List (Ly × List It)} {f:Ly × List It→Bool},y∈l→f y=false→(l.filter f).length+1≤l.length:=by
  intro l f
  induction l with
  | nil=>intro h;cases h
  | cons z l ih =>
   intro hz hfy
   rw [List.filter_cons]
   have:=List.length_filter_le f l
   rcases List.mem_cons.1 hz with rfl|hz
   ·rw [if_neg (by rw [hfy];decide)]
    simp only [List.length_cons];omega
   ·have:=ih hz hfy
    split <;> simp only [List.length_cons] <;> omega
 have h2:=h1 (f:=fun z=>sS (iN d s p 0 t).G (mL (iN d s p 0 t).N) z.1.i) hm hno
 have h3:(iN d s p 0 t).L.length=d.L.length+1:=by show (d.L++[_]).length=_;rw [List.length_append];rfl
 omega
theorem YK {r:Rm} {d:Dr} (h:Sim r d) (s onto:List UInt8):(iQ r s onto).2=(pS d s onto).2∧Sim (iQ r s onto).1 (pS d s onto).1:=by
 unfold iQ pS wsP snP
 cases hn:sV d.N s with
 | none =>
  obtain ⟨h1,h2⟩:=dG h.toSimW hn
  rw [h1,h2];exact ⟨rfl,h⟩
 | some n =>
  obtain ⟨y,hy,h1,h2,h3,h4,h5⟩:=dF h.toSimW hn
  have hy2:=h.t y hy
  rw [h1,h2,h5,iX h3,eE h3]
  cases hf:y.1.f
  rotate_left 1
  ·exact ⟨rfl,h⟩
  ·rw [show ((0:Int) == 0 && false)=false from rfl]
   simp only [Bool.false_eq_true,if_false]
   rw [show (!((0:Int) == 0))=false from rfl]
   simp only [Bool.false_eq_true,if_false]
   cases hnt:sV d.N onto with
   | none =>
    obtain ⟨k1,k2⟩:=dG h.toSimW hnt
    rw [k1,k2];exact ⟨rfl,h⟩
   | some m =>
    obtain ⟨z,hz,k1,k2,k3,k4,k5⟩:=dF h.toSimW hnt
    have hz2:=h.t z hz
    rw [k1,k2,k5,iX k3,eE k3]
    cases hfz:z.1.f
    ·exact ⟨rfl,h⟩
    ·rw [show ((0:Int) == 0 && !true)=false from rfl]
     simp only [Bool.false_eq_true,if_false,Bool.not_true]
     rw [show (!((0:Int) == 0))=false from rfl]
     simp only [Bool.false_eq_true,if_false]
     rw [lM h.toSimW,Bool.not_not]
     cases hd:rJ d z.1.i
     ·simp only [Bool.false_eq_true,if_false]
      rw [h.toSimW.treeR,h.toSimW.treeR,h.toSimW.treeR,eE h3,eE k3,show zLa d y.1.i=y.1.p by unfold zLa;rw [h3],h.x]
      unfold eZ
      have hbk:=h.toOkW.tree y.1.p
      generalize cQ d y.1.p=b at hbk ⊢
      cases hc1:decide (0<((dZ b z.2 y.2).2.length:Int))
      ·simp only [Bool.false_eq_true,if_false]
       cases hc2:decide (120<((dZ b z.2 y.2).1.length:Int))
       ·simp only [Bool.false_eq_true,if_false,Bool.false_or]
        rw [show (!((0:Int) == 0))=false from rfl]
        simp only [Bool.false_eq_true,if_false]
        cases hc3:decide (2147483647≤d.x)
        ·simp only [Bool.false_eq_true,if_false,true_and]
         simp only [decide_eq_false_iff_not] at hc1 hc2 hc3
         have hok:=wZ hbk hz2 hy2 (by omega) (by omega)
         have hsn:bF s=true:=by
          obtain ⟨g1,g2⟩:=fC hn
          rw [← g2];exact (h.nm n g1).1
         have hlen2:(bX d.N s d.x).length≤20:=by
          obtain ⟨g1,g2⟩:=fC hn
          rw [← g2,nY h.srt g1,List.length_set];exact h.ln
         refine FE h.toSimW hsn ⟨z,hz,rfl,hfz⟩ (.inl rfl) (oI hd) hok (by omega) hlen2 (by rw [eE k3]) ?_
         exact Nat.le_trans (YQ h.toOkW hn hy h4 hf ⟨z,hz,rfl,hfz⟩ (oI hd) (by omega)) h.len
        ·exact ⟨rfl,h⟩
       ·exact ⟨rfl,h⟩
      ·exact ⟨rfl,h⟩
     ·simp only [if_true]
      rw [DY r z.1.i (by rw [lM h.toSimW,hd];rfl)]
      exact ⟨rfl,h⟩
end
section
def dP:List UInt8:=[109,97,105,110]
def zKC:Rm:=⟨[⟨dP,2⟩],[⟨1,0,0,true⟩,⟨2,1,0,false⟩],[],3⟩
theorem FM:Sim zKC GQ:=by
 have hg:OkG GQ.G:=(zA5 (by decide +kernel)).1
 have hm:∀ y∈GQ.L,y=(⟨1,0,0,true⟩,[])∨y=(⟨2,1,0,false⟩,[]):=fun y hy=>by
  simpa [GQ] using hy
 refine { g:=hg,t:=fun y hy=>?_,srt:=List.pairwise_singleton _ _,nm:=fun n hn=>?_,one:=fun n hn m hm2 _ _=>?_,nx:=⟨fun y hy=>?_,by decide,by decide⟩,ln:=by decide,N:=rfl,L:=rfl,x:=rfl,e:=fun y hy=>?_,kept:=fun y hy=>?_,len:=by decide }
 ·rcases hm y hy with rfl|rfl <;> exact OkT.nil
 ·obtain rfl:n=⟨dP,2⟩:=by simpa [GQ,dP] using hn
  exact ⟨by decide +kernel,(⟨2,1,0,false⟩,[]),by simp [GQ],rfl⟩
 ·rw [show n=⟨dP,2⟩ by simpa [GQ,dP] using hn,show m=⟨dP,2⟩ by simpa [GQ,dP] using hm2]
 ·rcases hm y hy with rfl|rfl <;> decide
 ·have e:∀ a,cQ GQ a=[]:=fun a=>by
   unfold cQ
   split
   ·rename_i y hy
    rcases hm y (mE hy).1 with rfl|rfl <;> rfl
   ·rfl
  rw [e]
  rcases hm y hy with rfl|rfl <;> rfl
 ·refine ⟨⟨dP,2⟩,by simp [GQ,dP],?_⟩
  rcases hm y hy with rfl|rfl <;> decide +kernel
end
section
def bH (r:Rm):aC:=[.box [.own 1 0 r.N.length,.own 2 0 r.L.length,.mp 3,.p (.i .i64 r.x)],.arr 2 (bW r.N) false,.arr 4 (dS r.L) false,.mp (wC r.E)]
def AtN (N:List Nm) (s:List UInt8) (i:Nat):Prop:=i≤N.length∧∀ (k:Nat) (x:Nm),N[k]? = some x→(k<i→bL x.n s=true)∧(i≤k→bL x.n s=false)
theorem zDG {s:List UInt8}:∀ {N:List Nm} {i:Nat},AtN N s i→jR N s=i
 | [],i,h=>by have:=h.1;simp at this;subst this;rfl
 | x::N,0,h=>by
  have:=(h.2 0 x rfl).2 (Nat.le_refl _)
  unfold jR
  rw [List.takeWhile_cons,if_neg (by rw [this];decide)]
  rfl
 | x::N,i+1,h=>by
  have h0:=(h.2 0 x rfl).1 (by omega)
  have ih:=zDG (N:=N) (i:=i) (s:=s) ⟨by have:=h.1;simp only [List.length_cons] at this;omega,fun k y hy=>⟨fun hk=>(h.2 (k+1) y (by simpa using hy)).1 (by omega),fun hk=>(h.2 (k+1) y (by simpa using hy)).2 (by omega)⟩⟩
  unfold jR at ih ⊢
  rw [List.takeWhile_cons,if_pos h0,List.length_cons,ih]
theorem zJe {N:List Nm} (h:AK N) {s:List UInt8} {i:Nat} (ha:AtN N s i):NF N s=(match N[i]? with
  | some x=>x.n == s
  | none=>false):=by
 have e:=zDG ha
 cases hi:N[i]? with
 | none =>
  simp only
  unfold NF
  rw [List.any_eq_false]
  intro x hx
  obtain ⟨k,hk⟩:=List.mem_iff_getElem?.1 hx
  have hk2:k<i:=by
   have h1:=(List.getElem?_eq_some_iff.1 hk).1
   have h2:N.length≤i:=by
    rcases Nat.lt_or_ge i N.length with h|h
    ·rw [List.getElem?_eq_getElem h] at hi;cases hi
    ·exact h
   omega
  have:=mM ((ha.2 k x hk).1 hk2)
  rw [this];decide
 | some y =>
  simp only
  cases hy:y.n == s
  ·rw [Bool.eq_false_iff]
   intro hn
   unfold NF at hn
   obtain ⟨x,hx,hxs⟩:=List.any_eq_true.1 hn
   have hxs:=eq_of_beq hxs
   subst hxs
   have:=ES h hx
   rw [e,hi] at this
   cases this
   simp at hy
  ·exact List.any_eq_true.2 ⟨y,List.mem_of_getElem? hi,hy⟩
theorem PT {N:List Nm} (h:AK N) {s:List UInt8}:(NF N s=false∧sV N s=none)∨∃ x,NF N s=true∧sV N s=some x∧N[jR N s]? = some x∧x.n=s:=by
 cases hn:sV N s with
 | none =>
  left
  rw [← DL,hn]
  exact ⟨rfl,rfl⟩
 | some x =>
  right
  obtain ⟨h1,h2⟩:=fC hn
  refine ⟨x,by rw [← DL,hn];rfl,rfl,?_,h2⟩
  rw [← h2];exact ES h h1
structure OkR (r:Rm):Prop where
 srt:AK r.N
 nl:r.N.length≤900
 ll:r.L.length≤900
 ent:∀ x∈r.L,OkE (kT r.E x.i)
 x:0≤r.x∧r.x≤2147483647
theorem BZ {l:List Ly}:∀ {n:Nat} {id a:Int},a∈eL l n id→∃ x∈l,x.i=a
 | 0,_,_,h=>by cases h
 | n+1,id,a,h=>by
  simp only [eL] at h
  split at h
  ·rename_i x hx
   rcases List.mem_cons.1 h with rfl|h
   ·exact ⟨x,(nL hx).1,rfl⟩
   ·exact BZ h
  ·cases h
theorem OkR.layers {r:Rm} (h:OkR r) (id:Int):∀ l∈mI r id,OkE l:=fun l hl=>by
 obtain ⟨a,ha,rfl⟩:=List.mem_map.1 hl
 obtain ⟨x,hx,rfl⟩:=BZ (List.mem_reverse.1 ha)
 exact h.ent x hx
attribute [go_sem] bH
end
end Go.Dm
namespace Go.Proofs.YtbpblnmhlhpebaaGreatDoor
open Go Go.Dm Go.Proofs
section
theorem zDg {q p:List UInt8} {a:Int}:aA Tryz.prog 137 [.agg [.p (.s q),.p (.i .i64 a)],.c (.p (.s p))] [] fun r h=>r=.c (.p (.i .i64 (AP q p)))∧h=[]:=by
 refine ent aB aK Tryz.func137 rfl rfl fun X0 hX=>?_
 simp only [Tryz.f137,go_sem]
 repeat' (first|simp only [*,go_sem,Nat.reduceLT,Nat.reduceEqDiff,↓reduceIte]|((with_reducible refine aS (mF) ?_ ?_ ?_);exact rfl;exact rfl))
theorem QC {l:List Nm} {p:List UInt8} (hl:l.length≤1000000) (hs:AK l):
  aA Tryz.prog 136 [.c (.p (.sl 2 (bW l))),.c (.p (.s p)),.c (.clo 137 [])] [] fun r h =>
   r=.tup [.c (.p (.i .i64 (jR l p))),.c (.p (.b (NF l p)))]∧h=[]:=by
 have hmon:∀ (k k':Nat) (x x':Nm),l[k]? = some x→l[k']? = some x'→k<k'→bL x.n x'.n=true:=fun k k' x x' h1 h2 h3=>by
  obtain ⟨h4,rfl⟩:=List.getElem?_eq_some_iff.1 h1
  obtain ⟨h5,rfl⟩:=List.getElem?_eq_some_iff.1 h2
  exact List.pairwise_iff_getElem.1 hs _ _ h4 h5 h3
 refine ent aB aK Tryz.func136 rfl rfl fun X0 hX=>?_
 simp only [Tryz.f136,go_sem]
 repeat' (simp only [*,go_sem,Nat.reduceLT,Nat.reduceEqDiff,↓reduceIte,Nat.reduceAdd])
 refine bC aB aK (α:=Nat × Nat) (fun x=>⟨49,[(0,.c (.p (.sl 2 (bW l)))),(1,.c (.p (.s p))),(2,.c (.clo 137 [])),(8,.c (.p (.i .i64 l.length))),(9,.c (.p (.i .i64 x.1))),(10,.c (.p (.i .i64 x.2)))],[]⟩)
  (fun x=>x.1≤x.2∧x.2≤l.length∧∀ (k:Nat) (y:Nm),l[k]? = some y→(k<x.1→bL y.n p=true)∧(x.2≤k→bL y.n p=false)) (fun x=>x.2-x.1) (0,l.length) ⟨Nat.zero_le _,Nat.le_refl _,fun k y hy=>⟨fun h=>by omega,fun h=>by rw [List.getElem?_eq_none h] at hy;cases hy⟩⟩ (.inl (aJ (by rw [hX];rfl) rfl rfl (by simp [aI,aM,aD,aH,aG]))) ?_
 rintro ⟨i,j⟩ ⟨hij,hj,hl⟩
 simp only at hij hj hl
 by_cases hlt:i<j
 ·have h1:decide ((i:Int)<(j:Int))=true:=decide_eq_true (by omega)
  have w1:IntKind.i64.wrap ((i:Int)+j)=(i:Int)+j:=wrap_i64 (by omega) (by omega)
  have w2:IntKind.u64.wrap ((i:Int)+j)=(i:Int)+j:=wrap_u64 (by omega) (by omega)
  obtain ⟨m,hm,hmi,hmj⟩:∃ m:Nat,((i:Int)+j).fdiv (2 ^ min 1 64)=(m:Int)∧i≤m∧m<j :=
   ⟨(i+j) / 2,by rw [show (2:Int) ^ min 1 64=2 from rfl,Int.fdiv_eq_ediv_of_nonneg _ (by decide)];omega,by omega,by omega⟩
  have w3:IntKind.i64.wrap (m:Int)=m:=wrap_i64 (by omega) (by omega)
  have w4:IntKind.i64.wrap ((m:Int)+1)=m+1:=wrap_i64 (by omega) (by omega)
  have hml:m<l.length:=by omega
  have hx:l[m]? = some l[m]:=List.getElem?_eq_getElem hml
  have hg:=qL hx
  generalize l[m]=x at hx hg
  repeat' (first|simp only [*,go_sem,Nat.reduceLT,Nat.reduceLeDiff,Nat.reduceEqDiff,↓reduceIte,Nat.reduceAdd,Int.reduceLE,Int.reduceToNat]|((with_reducible refine aS (zDg) ?_ ?_ ?_);exact rfl;exact rfl)|with_reducible refine aU (fun _=>?_) (fun _=>?_)|((with_reducible refine And.intro ?_ ?_);omega))
  ·rename_i hb
   have hb:bL x.n p=true:=by rw [← nU];exact hb
   exact gL (m+1,j) ⟨by simp only;omega,hj,fun k y hy=>⟨fun hk=>by
    rcases Nat.lt_or_ge k m with h|h
    ·exact cF (hmon _ _ _ _ hy hx h) hb
    ·have:k=m:=by simp only at hk;omega
     subst this;rw [hx] at hy;cases hy;exact hb,(hl k y hy).2⟩⟩ (by simp only;omega) (aJ rfl rfl rfl (by simp [aI,aM,aD,aH,aG]))
  ·rename_i hb
   have hb:bL x.n p=false:=by rw [← nU];exact hb
   exact gL (i,m) ⟨hmi,by simp only;omega,fun k y hy=>⟨(hl k y hy).1,fun hk=>by
    rcases Nat.lt_or_ge m k with h|h
    ·cases hc:bL y.n p
     ·rfl
     ·have:=cF (hmon _ _ _ _ hx hy h) hc
      rw [hb] at this;cases this
    ·have:k=m:=by simp only at hk;omega
     subst this;rw [hx] at hy;cases hy;exact hb⟩⟩ (by simp only;omega) (aJ rfl rfl rfl (by simp [aI,aM,aD,aH,aG]))
 ·have h1:decide ((i:Int)<(j:Int))=false:=decide_eq_false (by omega)
  have:i=j:=by omega
  subst this
  have hat:AtN l p i:=⟨hj,hl⟩
  have he:=PLift.up (zDG hat)
  have hn:=zJe hs hat
  by_cases hil:i<l.length
  ·have hx:l[i]? = some l[i]:=List.getElem?_eq_getElem hil
   rw [hx] at hn
   have hg:=qL hx
   have h2:decide ((i:Int)<(l.length:Int))=true:=decide_eq_true (by omega)
   generalize l[i]=x at hx hg hn
   clear hat hl
   repeat' (first|simp only [*,go_sem,Nat.reduceLT,Nat.reduceLeDiff,Nat.reduceEqDiff,↓reduceIte,Nat.reduceAdd]|((with_reducible refine aS (zDg) ?_ ?_ ?_);exact rfl;exact rfl)|((with_reducible refine And.intro ?_ ?_);omega))
   all_goals simp only [he.down,EF]
  ·have h2:decide ((i:Int)<(l.length:Int))=false:=decide_eq_false (by omega)
   rw [List.getElem?_eq_none (Nat.le_of_not_lt hil)] at hn
   clear hat hl
   repeat' (simp only [*,go_sem,Nat.reduceLT,Nat.reduceEqDiff,↓reduceIte])
   all_goals simp only [he.down]
theorem RB {h:aC} {i n:Nat} {l:List Nm} {p:List UInt8} {K:DV→aC→Prop} (hl:l.length≤1000000) (hs:AK l) (hn:n=l.length) (h0:h[i]? = some (.arr 2 (bW l) false))
  (hk:K (.tup [.c (.p (.i .i64 (jR l p))),.c (.p (.b (NF l p)))]) h):aA Tryz.prog 136 [.c (.own i 0 n),.c (.p (.s p)),.c (.clo 137 [])] h K :=
 zKz rfl rfl (by rw [hn,← gE,List.take_length]) (QC hl hs) h0 (fun d hd=>by subst hd;exact ⟨rfl,hk⟩)
theorem oF {r:Rm} {s:List UInt8} (hl:r.N.length≤1000000) (hs:AK r.N):aA Tryz.prog 66 [.c (.ptr 0 0),.c (.p (.s s))] (bH r) fun d h=>d=.tup [.c (.p (.i .i64 (jR r.N s))),.c (.p (.b (NF r.N s)))]∧h=bH r:=by
 unfold bH
 refine ent aB aK Tryz.func66 rfl rfl fun X0 hX=>?_
 simp only [Tryz.f66,go_sem]
 repeat' (first|simp only [*,go_sem,Nat.reduceLT,Nat.reduceEqDiff,↓reduceIte,Nat.reduceAdd]|refine RB hl hs rfl rfl ?_)
end
end Go.Proofs.YtbpblnmhlhpebaaGreatDoor
namespace Go.Proofs.YtbpblnmhlhpebaaGreatDoor
open Go Go.Dm
section
theorem sort_k {h:aC} {id:Nat} {ss:List (List UInt8)} {K:DV→aC→Prop} (hid:h[id]? = some (.arr 1 (Go.Dm.encS ss) false)) (hsz:ss.length<4611686018427387904)
  (hk:K (.tup []) (h.set id (.arr 1 (Go.Dm.encS (ss.mergeSort fun x y=>decide (x≤y))) false))):aA Tryz.prog 133 [.c (.own id 0 ss.length)] h K :=
 aA.mono (zKq hid hsz) (by rintro d h' ⟨rfl,rfl⟩;exact hk)
theorem LK {h:aC} {id n:Nat} {ss:List (List UInt8)} {K:DV→aC→Prop} (hid:h[id]? = some (.arr 1 (Go.Dm.encS ss) false)) (hsz:ss.length<4611686018427387904) (hn:n=ss.length)
  (hk:K (.c (.own id 0 (Lib.compact ss).length)) (h.set id (.arr 1 (Go.Dm.encS (Lib.compact ss++List.replicate (ss.length-(Lib.compact ss).length) [])) false))):aA Tryz.prog 134 [.c (.own id 0 n)] h K:=by
 subst hn;exact aA.mono (zCJ hid hsz) (by rintro d h' ⟨rfl,rfl⟩;exact hk)
theorem QV {a b:List It} (hal:a.length≤120) (hbl:b.length≤120) (has:Srt a) (hbs:Srt b) (hna:∀ x∈a,x.p≠[]) (hnb:∀ x∈b,x.p≠[]) (hda2:∀ x∈a,x.n.d.length≤2000) (hdb2:∀ x∈b,x.n.d.length≤2000):
  aA Tryz.prog 65 [.c (.p (.sl 5 (aV a))),.c (.p (.sl 5 (aV b)))] [] fun r h=>r=.c (.p (.sl 10 (oJ (dO a b))))∧h=[]:=by
 have hda:∀ x∈a,x.n.d.length≤140737488355328:=fun x hx=>Nat.le_trans (hda2 x hx) (by decide)
 have hdb:∀ x∈b,x.n.d.length≤140737488355328:=fun x hx=>Nat.le_trans (hdb2 x hx) (by decide)
 have hcl:(a++b).length≤240:=by rw [List.length_append];omega
 unfold dO uL
 refine ent aB aK Tryz.func65 rfl rfl fun X0 hX=>?_
 simp only [Tryz.f65,go_sem]
 repeat' (first|simp only [*,go_sem,Nat.reduceLT,Nat.reduceLeDiff,Nat.reduceEqDiff,↓reduceIte]|((with_reducible refine bP (zGC (a:=a) (b:=b) (by omega) (by omega)) ?_ ?_ ?_);exact rfl;exact fun _=>rfl)|((with_reducible apply aA.frz);exact rfl;exact rfl)|((with_reducible refine And.intro ?_ ?_);decide))
 have hcab:(a++b).length=a.length+b.length:=List.length_append
 generalize a++b=c at hcl hcab
 refine iC aB aK 5 1 rfl ?_
 refine bC aB aK (α:=Nat × List (List UInt8)) (fun x=>⟨69,[(0,.c (.p (.sl 5 (aV a)))),(1,.c (.p (.sl 5 (aV b)))),(19,.c (.p (.sl 5 (aV c)))),(20,.c (.p (.i .i64 ((a.length:Int)+b.length)))),(5,.c (.own 1 0 x.2.length)),(21,.c (.p (.i .i64 x.1)))],[.arr 1 [[.sl 5 (aV a)],[.sl 5 (aV b)]] true,.arr 1 (Go.Dm.encS x.2) false]⟩)
  (fun x=>x.1≤c.length∧x.2.length≤x.1∧x.2++(c.drop x.1).map It.p=c.map It.p) (fun x=>c.length-x.1) (0,[]) ⟨Nat.zero_le _,Nat.le_refl _,rfl⟩ (.inl (aJ (by rw [hX];rfl) rfl rfl (by simp [aI,aM,aD,aH,aG,rP]))) ?_
 rintro ⟨k,out⟩ ⟨hk,hol,hout⟩
 simp only at hk hol hout
 by_cases hlt:k<c.length
 ·have hx:c[k]? = some c[k]:=List.getElem?_eq_getElem hlt
  have hg:=cZ hx
  have hd:=drop_at hx
  have h1:decide ((k:Int)<(a.length:Int)+b.length)=true:=decide_eq_true (by omega)
  have w1:IntKind.i64.wrap ((k:Int)+1)=k+1:=wrap_i64 (by omega) (by omega)
  generalize c[k]=x at hx hg hd
  rw [hd,List.map_cons] at hout
  repeat' (first|simp only [*,go_sem,Nat.reduceLT,Nat.reduceLeDiff,Nat.reduceEqDiff,↓reduceIte,Nat.reduceAdd,Nat.reduceBEq]|((with_reducible refine And.intro ?_ ?_);((first|omega|decide))))
  exact jU (k+1,out++[x.p]) 1 4 ⟨by simp only;omega,by simp;omega,by simpa using hout⟩ (by simp only;omega) rfl rfl (aJ rfl rfl rfl (by simp [aI,aM,aD,aH,aG,GF,DF,DN]))
 ·have h1:decide ((k:Int)<(a.length:Int)+b.length)=false:=decide_eq_false (by omega)
  rw [List.drop_of_length_le (by omega),List.map_nil,List.append_nil] at hout
  rw [← hout]
  clear hout
  have hol2:out.length≤240:=by omega
  have hsl:(out.mergeSort fun x y=>decide (x≤y)).length=out.length:=List.length_mergeSort ..
  repeat' (first|simp only [*,go_sem,Nat.reduceLT,Nat.reduceEqDiff,↓reduceIte,List.set_cons_succ,List.set_cons_zero]|refine sort_k (id:=1) (ss:=out) (by rfl) (by omega) ?_|refine LK (id:=1) (ss:=out.mergeSort fun x y=>decide (x≤y)) (by rfl) (by omega) (by omega) ?_)
  have hst:(out.mergeSort fun x y=>decide (x≤y)).length≤240:=by omega
  generalize (out.mergeSort fun x y=>decide (x≤y))=st at hst
  have hcp:=yF st
  generalize List.replicate (out.length-(Lib.compact st).length) ([]:List UInt8)=rest
  generalize Lib.compact st=cp at hcp
  clear hlt h1 hk hol hsl
  refine iC aB aK 8 10 rfl ?_
  refine bC aB aK (α:=Nat × List Ch) (fun x=>⟨69,[(0,.c (.p (.sl 5 (aV a)))),(1,.c (.p (.sl 5 (aV b)))),(34,.c (.own 1 0 cp.length)),(35,.c (.p (.i .i64 cp.length))),(36,.c (.p (.i .i64 x.1))),(8,.c (.own 2 0 x.2.length))],[.arr 1 [[.sl 5 (aV a)],[.sl 5 (aV b)]] true,.arr 1 (Go.Dm.encS (cp++rest)) false,.arr 10 (oJ x.2) false]⟩)
   (fun x=>x.1≤cp.length∧x.2.length≤x.1∧x.2++QS a b (cp.drop x.1)=QS a b cp) (fun x=>cp.length-x.1) (0,[]) ⟨Nat.zero_le _,Nat.le_refl _,rfl⟩ (.inl (aJ (by rw [hX];rfl) rfl rfl (by simp [aI,aM,aD,aH,aG,TD]))) ?_
  rintro ⟨k,out2⟩ ⟨hk,hol,hout⟩
  simp only at hk hol hout
  by_cases hlt:k<cp.length
  ·have hx:cp[k]? = some cp[k]:=List.getElem?_eq_getElem hlt
   have hd:=drop_at hx
   have hxr:(cp++rest)[k]? = some cp[k]:=by rw [List.getElem?_append_left hlt];exact hx
   have hg:=Go.Dm.encS_at hxr
   have h1:decide ((k:Int)<(cp.length:Int))=true:=decide_eq_true (by omega)
   have w1:IntKind.i64.wrap ((k:Int)+1)=k+1:=wrap_i64 (by omega) (by omega)
   generalize cp[k]=p at hx hxr hg hd
   rw [hd,QS,chF] at hout
   repeat' (first|simp only [*,go_sem,Nat.reduceLT,Nat.reduceLeDiff,Nat.reduceEqDiff,↓reduceIte,Nat.reduceAdd,Nat.reduceMul,Nat.reduceBEq]|((with_reducible refine bP (eT (t:=a) (by omega) has hna hda) ?_ ?_ ?_);exact rfl;exact fun _=>rfl)|((with_reducible refine bP (eT (t:=b) (by omega) hbs hnb hdb) ?_ ?_ ?_);exact rfl;exact fun _=>rfl)|((with_reducible refine bP (zGS _ _) ?_ ?_ ?_);exact rfl;exact fun _=>rfl)|with_reducible refine aU (fun _=>?_) (fun _=>?_)|((with_reducible refine And.intro ?_ ?_);((first|omega|decide))))
   ·rename_i hb
    rw [if_pos hb] at hout
    exact jU (k+1,out2++[⟨p,oY (aQ a p).isSome (aQ b p).isSome ((aQ a p).getD nd0) ((aQ b p).getD nd0),(aQ a p).getD nd0,(aQ b p).getD nd0⟩]) 2 6 ⟨by simp only;omega,by simp;omega,by simpa using hout⟩ (by simp only;omega) rfl rfl (aJ rfl rfl rfl (by simp [aI,aM,aD,aH,aG,GF,DF,DN]))
   ·rename_i hb
    rw [if_neg (by rw [hb];decide)] at hout
    exact gL (k+1,out2) ⟨by simp only;omega,by simp only;omega,by simpa using hout⟩ (by simp only;omega) (aJ rfl rfl rfl (by simp [aI,aM,aD,aH,aG]))
  ·have h1:decide ((k:Int)<(cp.length:Int))=false:=decide_eq_false (by omega)
   rw [List.drop_of_length_le (by omega),QS,List.append_nil] at hout
   repeat' (simp only [*,go_sem,Nat.reduceLT,Nat.reduceEqDiff,↓reduceIte])
theorem zJD {a b:List It} (ha:OkT a) (hb:OkT b):
  aA Tryz.prog 65 [.c (.p (.sl 5 (aV a))),.c (.p (.sl 5 (aV b)))] [] fun r h=>r=.c (.p (.sl 10 (oJ (dO a b))))∧h=[] :=
 QV ha.len hb.len ha.srt hb.srt (fun x hx=>(ha.its x hx).1) (fun x hx=>(hb.its x hx).1) ha.dlen hb.dlen
end
end Go.Proofs.YtbpblnmhlhpebaaGreatDoor
