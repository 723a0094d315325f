/- Part 27 of the proof of roomAsks_card, set without needless blanks. No condition. -/
import Derived.Test.YtlbfnbldeefgmaaGreatDoorA25
import Derived.Test.YtlbfnbldeefgmaaGreatDoorA20
set_option linter.all false
section
namespace Go.Dm
open Go
theorem DI {r:Rm} {d:Dr} (h:SimW r d) {N:List Nm} (hs:HQ N) (hn:∀ n∈N,aW n.n=true∧∃ y∈d.L,y.1.i=n.l)
  (h1:∀ n∈N,∀ m∈N,n.l=m.l→(∀ y∈d.L,y.1.i=n.l→y.1.f=false)→n=m) (hl:N.length≤20):SimW ⟨N,r.L,r.E,r.x⟩ ⟨d.L,N,d.x⟩ :=
 { g:=h.g,t:=h.t,srt:=hs,nm:=hn,one:=h1,nx:=h.nx,ln:=hl,N:=rfl,L:=h.L,x:=h.x,e:=h.e }
theorem oP {id:Int}:∀ {l:List (Ly × List It)},oE (l.map (·.1))→xX id l=l.map fun y=>(AN id y.1,y.2)
 | [],_=>rfl
 | y::l,h=>by
  have h2:=List.pairwise_cons.1 h;simp only [xX,List.map_cons];split
  ·rename_i hy;have hy:=eq_of_beq hy;have e1:AN id y.1=⟨y.1.i,y.1.p,y.1.s,true⟩:=by unfold AN;rw [show (y.1.i == id)=true by simpa using hy,Bool.or_true]
   rw [e1]
   congr 1
   have key:∀ z∈l,(AN id z.1,z.2)=z:=fun z hz=>by
    have:y.1.i<z.1.i:=h2.1 z.1 (List.mem_map.2 ⟨z,hz,rfl⟩);unfold AN;rw [show (z.1.i == id)=false by simp;omega,Bool.or_false]
   exact ((List.map_congr_left key).trans (List.map_id' l)).symm
  ·rename_i hy;have e1:AN id y.1=y.1:=by unfold AN;rw [show (y.1.i == id)=false by simpa using hy,Bool.or_false]
   rw [e1,oP h2.2]
def zJt (d:Dr) (id:Int):Dr:=⟨xX id d.L,d.N,d.x⟩
theorem zCU {d:Dr} (hi:oE d.G) (id:Int):(zJt d id).G=mQ d.G id:=by
 show (xX id d.L).map (·.1)=_
 rw [oP hi];unfold mQ Dr.G;rw [List.map_map,List.map_map];rfl
theorem wA {d:Dr} (hi:oE d.G) {id:Int} {y:Ly × List It} (h:y∈(zJt d id).L):∃ z∈d.L,y=(AN id z.1,z.2):=by
 have h:y∈xX id d.L:=h;rw [oP hi] at h;obtain ⟨z,h1,h2⟩:=List.mem_map.1 h;exact ⟨z,h1,h2.symm⟩
theorem gB {d:Dr} (hi:oE d.G) {id:Int} {z:Ly × List It} (h:z∈d.L):(AN id z.1,z.2)∈(zJt d id).L:=by
 show _∈xX id d.L;rw [oP hi];exact List.mem_map.2 ⟨z,h,rfl⟩
theorem FD {d:Dr} (h:OkW d) (id a:Int):dE (zJt d id) a=dE d a:=by
 have hi:oE (zJt d id).G:=by rw [zCU h.g.inc];exact (zIj h.g id).inc
 cases hl:tO d a with
 | none =>
  have hno:=FR hl;rw [jY hno,jY fun y hy=>?_];obtain ⟨z,h1,rfl⟩:=wA h.g.inc hy;exact hno z h1
 | some y =>
  obtain ⟨h1,rfl⟩:=lQ hl;rw [iJ h.g.inc h1];exact iJ hi (y:=(AN id y.1,y.2)) (gB h.g.inc (id:=id) h1)
theorem zV {r:Rm} {d:Dr} (h:SimW r d) (id:Int):SimW ⟨r.N,mQ r.L id,r.E,r.x⟩ (zJt d id):=by
 refine { g:=by rw [zCU h.g.inc];exact zIj h.g id,t:=fun y hy=>?_,srt:=h.srt,nm:=fun n hn=>?_,one:=fun n hn m hm e hf=>?_,nx:=⟨fun y hy=>?_,h.nx.2⟩,ln:=h.ln,N:=h.N,L:=by rw [zCU h.g.inc,← h.L],x:=h.x,e:=fun y hy=>?_ }
 ·obtain ⟨z,h1,rfl⟩:=wA h.g.inc hy;exact h.t z h1
 ·obtain ⟨h1,y,h2,h3⟩:=h.nm n hn;exact ⟨h1,_,gB h.g.inc (id:=id) h2,h3⟩
 ·refine h.one n hn m hm e fun y h2 h3=>?_;have:=hf _ (gB h.g.inc (id:=id) h2) h3;simp only [AN,Bool.or_eq_false_iff] at this;exact this.1
 ·obtain ⟨z,h1,rfl⟩:=wA h.g.inc hy;exact h.nx.1 z h1
 ·obtain ⟨z,h1,rfl⟩:=wA h.g.inc hy;show jP r.E z.1.i=fX (dE (zJt d id) z.1.p) z.2;rw [FD h.toOkW];exact h.e z h1
def vP (d:Dr) (s:List UInt8) (p q:Int) (t:List It):Dr:=⟨d.L++[(⟨d.x,p,q,false⟩,t)],cE d.N s d.x,d.x+1⟩
theorem zGE (d:Dr) (s:List UInt8) (p q:Int) (t:List It):zGD d s p q t=yG (vP d s p q t):=rfl
theorem zDy (d:Dr) (s:List UInt8) (p q:Int) (t:List It):(vP d s p q t).G=d.G++[⟨d.x,p,q,false⟩]:=by
 unfold vP Dr.G;rw [List.map_append];rfl
def EB (d:Dr) (p:Int):Prop:=∃ y∈d.L,y.1.i=p∧y.1.f=true
theorem DL {d:Dr} {p:Int} (h:EB d p):eZ d.G d.G.length p:=by
 obtain ⟨y,h1,h2,h3⟩:=h;obtain ⟨k,hk⟩:=List.mem_iff_getElem?.1 (qK h1);exact .inr ⟨k,y.1,(List.getElem?_eq_some_iff.1 hk).1,hk,h2,h3⟩
theorem LR {d:Dr} (h:OkW d) {s:List UInt8} {p q:Int} {t:List It} (hi:oE (vP d s p q t).G) (a:Int) (ha:a≠d.x):dE (vP d s p q t) a=dE d a:=by
 cases hl:tO d a with
 | none =>
  have hno:=FR hl;rw [jY hno,jY fun y hy=>?_];rcases List.mem_append.1 (show y∈d.L++[_] from hy) with h1|h1
  ·exact hno y h1
  ·rw [List.mem_singleton] at h1;subst h1;exact fun e=>ha e.symm
 | some y =>
  obtain ⟨h1,rfl⟩:=lQ hl;rw [iJ h.g.inc h1];exact iJ hi (show y∈d.L++[_] from List.mem_append_left _ h1)
theorem NK {r:Rm} {d:Dr} (h:SimW r d) {s:List UInt8} {p q:Int} {t:List It} (hs:aW s=true) (hp:EB d p) (hq:q=0∨(p≠q∧EB d q)) (hc:(bQ d.G p).length≤11) (ht:OkT t)
  (hx:d.x<2147483647) (hn:(cE d.N s d.x).length≤20):SimW ⟨cE r.N s r.x,r.L++[⟨r.x,p,q,false⟩],pZ r.E r.x (fX (dE d p) t),r.x+1⟩ (vP d s p q t):=by
 have hz:∀ x∈d.G,x.i<d.x:=fun x hx=>by
  obtain ⟨y,hy,rfl⟩:=RQ.1 hx;exact h.nx.1 y hy
 have hp1:1≤p∧p<d.x:=by
  obtain ⟨y,h1,rfl,_⟩:=hp;exact ⟨h.g.lo1 _ (qK h1),h.nx.1 y h1⟩
 have hg:OkG (vP d s p q t).G:=by
  rw [zDy];refine zJw h.g hz ⟨h.nx.2.1,by have:=h.nx.2.2;simp only;omega⟩ (DL hp) ?_ (fun h0=>?_) hc
  ·rcases hq with rfl|⟨_,hq⟩
   ·exact .inl rfl
   ·exact DL hq
  ·rcases hq with rfl|⟨hq,_⟩
   ·exact absurd rfl h0
   ·exact ⟨by show p≠0;omega,hq⟩
 have hmem:∀ y,y∈(vP d s p q t).L↔y∈d.L∨y=(⟨d.x,p,q,false⟩,t):=fun y=>by
  show y∈d.L++[_]↔_;rw [List.mem_append,List.mem_singleton]
 have hN:∀ n,n∈(vP d s p q t).N↔n=⟨s,d.x⟩∨(n∈d.N∧n.n≠s):=fun n=>wV h.srt;have old:∀ n∈d.N,n.l≠d.x:=fun n hn e=>by
  obtain ⟨y,_,h1,h2⟩:=h.toOkW.named hn;have:=h.nx.1 y h1;omega
 refine { g:=hg,t:=fun y hy=>?_,srt:=mT h.srt s d.x,nm:=fun n hnn=>?_,one:=fun n hnn m hmm e hf=>?_,nx:=⟨fun y hy=>?_,by show 1≤d.x+1;have:=h.nx.2.1;omega,by show d.x+1≤2147483647;omega⟩,ln:=hn,N:=by show cE r.N s r.x=cE d.N s d.x;rw [h.N,h.x],L:=by rw [zDy,← h.L,← h.x],x:=by show r.x+1=d.x+1;rw [h.x],e:=fun y hy=>?_ }
 ·rcases (hmem y).1 hy with h1|rfl
  ·exact h.t y h1
  ·exact ht
 ·rcases (hN n).1 hnn with rfl|⟨h1,_⟩
  ·exact ⟨hs,_,(hmem _).2 (.inr rfl),rfl⟩
  ·obtain ⟨h2,y,h3,h4⟩:=h.nm n h1;exact ⟨h2,y,(hmem y).2 (.inl h3),h4⟩
 ·rcases (hN n).1 hnn with rfl|⟨h1,h2⟩ <;> rcases (hN m).1 hmm with rfl|⟨h3,h4⟩
  ·rfl
  ·exact absurd e.symm (old m h3)
  ·exact absurd e (old n h1)
  ·exact h.one n h1 m h3 e fun y h5 h6=>hf y ((hmem y).2 (.inl h5)) h6
 ·show y.1.i<d.x+1;rcases (hmem y).1 hy with h1|rfl
  ·have:=h.nx.1 y h1;omega
  ·simp only;omega
 ·show jP (pZ r.E r.x _) y.1.i=_;rcases (hmem y).1 hy with h1|rfl
  ·have hlt:=h.nx.1 y h1;rw [oT _ _ (by rw [h.x];omega),h.e y h1,LR h.toOkW hg.inc];rcases h.toOkW.below h1 with h2|⟨z,h2,h3,_⟩
   ·rw [h2];have:=h.nx.2.1;omega
   ·rw [← h3];have:=h.nx.1 z h2;omega
  ·rw [h.x];simp only;rw [rT,LR h.toOkW hg.inc p (by omega)]
def dJ (r:Rm) (s:List UInt8):Ly × Int:=match GD r.N s with
 | some n=>((eF r.L n.l).getD ly0,0)
 | none=>(ly0,6)
def wsP (r:Rm) (s:List UInt8):Ly × Int:=if (dJ r s).2 == 0 && (dJ r s).1.f then (ly0,14) else dJ r s
def rD (r:Rm) (s:List UInt8):Int:=if !aW s then 1 else if WB r.N s then 7 else if decide (20≤(r.N.length:Int)) || (decide (40≤(r.L.length:Int)) || decide (2147483647≤r.x)) then 16 else 0
def sZ (r:Rm) (on:Int):Int:=if decide (12≤((bQ r.L on).length:Int)) then 15 else 0
def TX (r:Rm):Rm:=⟨r.N,iU r.L (mM r.N),BK (iU r.L (mM r.N)) r.E,r.x⟩
def zKW (r:Rm) (s:List UInt8) (p q:Int) (es:List En):Rm:=TX ⟨cE r.N s r.x,r.L++[⟨r.x,p,q,false⟩],pZ r.E r.x es,r.x+1⟩
def kH (r:Rm) (s sn:List UInt8):Rm × Int :=
 if !((wsP r s).2 == 0) then (r,(wsP r s).2) else if !(rD r sn == 0) then (r,rD r sn) else if !(sZ r (wsP r s).1.i == 0) then (r,sZ r (wsP r s).1.i)
 else (zKW ⟨cE r.N sn (wsP r s).1.i,mQ r.L (wsP r s).1.i,r.E,r.x⟩ s (wsP r s).1.i 0 [],0)
theorem iN {r:Rm} {d:Dr} (h:SimW r d) {s:List UInt8} {n:Nm} (hn:GD d.N s=some n):∃ y∈d.L,dJ r s=(y.1,0)∧gH d.N s=y.1.i∧tO d y.1.i=some y∧y.1.i=n.l∧(y.1.i == 0)=false:=by
 obtain ⟨h1,h2⟩:=iH hn;obtain ⟨y,h3,h4,h5⟩:=h.toOkW.named h1;refine ⟨y,h4,?_,by unfold gH;rw [hn,h5],by rw [h5];exact h3,h5,?_⟩
 ·unfold dJ;rw [h.N,hn];show ((eF r.L n.l).getD ly0,(0:Int))=_;rw [h.L,zIh,h3];rfl
 ·have:=h.g.lo1 _ (qK h4);simp only [beq_eq_false_iff_ne,ne_eq];omega
theorem oR {r:Rm} {d:Dr} (h:SimW r d) {s:List UInt8} (hn:GD d.N s=none):dJ r s=(ly0,6)∧(gH d.N s == 0)=true:=by
 refine ⟨by unfold dJ;rw [h.N,hn],?_⟩
 rw [h.toOkW.name0,hn];rfl
theorem rE {d:Dr} {y:Ly × List It} (h:tO d y.1.i=some y):pM d y.1.i=y.1.f:=by unfold pM;rw [h]
theorem oA {d:Dr} {y:Ly × List It} (h:tO d y.1.i=some y):dE d y.1.i=y.2:=by unfold dE;rw [h]
theorem VS {r:Rm} {d:Dr} (h:SimW r d) (s:List UInt8):rD r s=xV d s:=by
 unfold rD xV;rw [h.toOkW.name0,RT,h.N,h.L,h.x,show d.G.length=d.L.length by simp [Dr.G],Bool.not_not]
theorem VT {d:Dr} {s:List UInt8} (h:(xV d s == 0)=true):aW s=true∧gH d.N s=0∧d.N.length<20∧d.L.length<40∧d.x<2147483647:=by
 unfold xV at h;split at h
 ·cases h
 ·rename_i h1;split at h
  ·cases h
  ·rename_i h2;split at h
   ·cases h
   ·rename_i h3;simp only [Bool.or_eq_true,decide_eq_true_eq,not_or,Bool.not_eq_true,Bool.not_eq_false',beq_iff_eq] at h1 h2 h3;exact ⟨h1,h2,by omega,by omega,by omega⟩
theorem QI {r:Rm} {d:Dr} (h:SimW r d) (on:Int):(sZ r on == 0) = !YJ d on:=by
 unfold sZ YJ;rw [h.L];by_cases hc:12≤(bQ d.G on).length
 ·rw [if_pos (by simp;omega),show decide (12<(((bQ d.G on).length:Int)+1))=true by simp;omega];rfl
 ·rw [if_neg (by simp;omega),show decide (12<(((bQ d.G on).length:Int)+1))=false by simp;omega];rfl
theorem zIY (r:Rm) (on:Int) (h:(sZ r on == 0)=false):sZ r on=15:=by
 unfold sZ at h ⊢;split at h
 ·rename_i h1;rw [if_pos h1]
 ·cases h
theorem WM {d:Dr} {on:Int} (h:YJ d on=false):(bQ d.G on).length≤11:=by
 unfold YJ at h;simp only [decide_eq_false_iff_not] at h;omega
theorem zJ9 {r:Rm} {d:Dr} (h:SimW r d) {s:List UInt8} {p q:Int} {t:List It} {es:List En} (hs:aW s=true) (hp:EB d p) (hq:q=0∨(p≠q∧EB d q)) (hc:(bQ d.G p).length≤11) (ht:OkT t)
  (hx:d.x<2147483647) (hn:(cE d.N s d.x).length≤20) (he:es=fX (dE d p) t) (hl:(zGD d s p q t).L.length≤40):Sim (zKW r s p q es) (zGD d s p q t):=by
 subst he;exact zHw (NK h hs hp hq hc ht hx hn) hl
theorem zGP (d:Dr) (hi:oE d.G):(yG d).L.length≤d.L.length:=by
 show (zDf d).length≤_;rw [FN hi];exact List.length_filter_le _ _
theorem zG0 {d:Dr} (h:OkW d) (s:List UInt8) (p q:Int) (t:List It):oE (vP d s p q t).G:=by
 rw [zDy];exact FG h.g.inc fun x hx=>by
  obtain ⟨y,hy,rfl⟩:=RQ.1 hx;exact h.nx.1 y hy
theorem ZA {r:Rm} {d:Dr} (h:Sim r d) (s sn:List UInt8):(kH r s sn).2=(kG d s sn).2∧Sim (kH r s sn).1 (kG d s sn).1:=by
 unfold kH kG wsP;cases hn:GD d.N s with
 | none =>
  obtain ⟨h1,h2⟩:=oR h.toSimW hn;rw [h1,h2];exact ⟨rfl,h⟩
 | some n =>
  obtain ⟨y,hy,h1,h2,h3,h4,h5⟩:=iN h.toSimW hn;rw [h1,h2,h5,rE h3,oA h3];cases hf:y.1.f;rotate_left 1
  ·exact ⟨rfl,h⟩
  ·rw [show ((0:Int) == 0 && false)=false from rfl]
   simp only [Bool.false_eq_true,if_false];rw [show (!((0:Int) == 0))=false from rfl]
   simp only [Bool.false_eq_true,if_false];rw [VS h.toSimW];cases hfr:(xV d sn == 0)
   ·exact ⟨rfl,h⟩
   ·simp only [Bool.not_true,Bool.false_eq_true,if_false];rw [QI h.toSimW,Bool.not_not];cases hd:YJ d y.1.i
    ·simp only [Bool.false_eq_true,if_false,true_and];obtain ⟨f1,f2,f3,f4,f5⟩:=VT hfr;have hwf:=zV h.toSimW y.1.i;have hmem:∀ n,n∈cE d.N sn y.1.i↔n=⟨sn,y.1.i⟩∨(n∈d.N∧n.n≠sn):=fun n=>wV h.srt;have hwn:=DI hwf (N:=cE d.N sn y.1.i) (mT h.srt sn y.1.i) (fun m hm=>?_) (fun a ha b hb e hfz=>?_) (by have:=qS d.N sn y.1.i;omega)
     ·have hcl:=qS d.N sn y.1.i;have hwn:SimW ⟨cE d.N sn y.1.i,mQ r.L y.1.i,r.E,r.x⟩ ⟨xX y.1.i d.L,cE d.N sn y.1.i,d.x⟩:=hwn;have hsn:aW s=true:=by
       obtain ⟨g1,g2⟩:=iH hn;rw [← g2];exact (h.nm n g1).1
      have hfa:EB ⟨xX y.1.i d.L,cE d.N sn y.1.i,d.x⟩ y.1.i:=⟨_,gB h.g.inc (id:=y.1.i) hy,rfl,by show (y.1.f || y.1.i == y.1.i)=true;simp⟩
      have hGeq:(⟨xX y.1.i d.L,cE d.N sn y.1.i,d.x⟩:Dr).G=mQ d.G y.1.i:=zCU h.g.inc y.1.i;have hne:sn≠s:=fun e=>by
       subst e;have:=h.toOkW.name0 sn;rw [f2,hn] at this;cases this
      have hin:(⟨n.n,n.l⟩:Nm)∈cE d.N sn y.1.i:=by
       obtain ⟨g1,g2⟩:=iH hn;exact (hmem _).2 (.inr ⟨g1,by rw [g2];exact fun e=>hne e.symm⟩)
      have hlen2:(cE (cE d.N sn y.1.i) s d.x).length≤20:=by
       obtain ⟨g1,g2⟩:=iH hn;rw [← g2,wW (mT h.srt sn y.1.i) hin];rw [List.length_set];omega
      have e0:dE ⟨xX y.1.i d.L,cE d.N sn y.1.i,d.x⟩ y.1.i=y.2:=(FD h.toOkW y.1.i y.1.i).trans (oA h3);rw [h.N];refine zJ9 hwn hsn hfa (.inl rfl) (by rw [hGeq,xY];exact WM hd) (h.t y hy) f5 hlen2 ?_ ?_
      ·show []=fX (dE ⟨xX y.1.i d.L,cE d.N sn y.1.i,d.x⟩ y.1.i) y.2;rw [e0,LN (h.t y hy)]
      ·have h7:=zGP (vP ⟨xX y.1.i d.L,cE d.N sn y.1.i,d.x⟩ s y.1.i 0 y.2) (zG0 hwn.toOkW _ _ _ _);have e:(vP ⟨xX y.1.i d.L,cE d.N sn y.1.i,d.x⟩ s y.1.i 0 y.2).L.length=d.L.length+1:=by
        show (xX y.1.i d.L++[_]).length=_;rw [List.length_append,oP h.g.inc,List.length_map];rfl
       rw [zGE];omega
     ·rcases (hmem m).1 hm with rfl|⟨g1,_⟩
      ·exact ⟨f1,_,gB h.g.inc (id:=y.1.i) hy,rfl⟩
      ·exact hwf.nm m g1
     ·have hfz2:∀ z∈d.L,z.1.i=a.l→z.1.i≠y.1.i∧z.1.f=false:=fun z hz hza=>by
       have:=hfz _ (gB h.g.inc (id:=y.1.i) hz) hza;simp only [AN,Bool.or_eq_false_iff] at this;exact ⟨by simpa using this.2,this.1⟩
      rcases (hmem a).1 ha with rfl|⟨g1,_⟩ <;> rcases (hmem b).1 hb with rfl|⟨g2,_⟩
      ·rfl
      ·exact absurd rfl (hfz2 y hy rfl).1
      ·exact absurd rfl (hfz2 y hy e.symm).1
      ·exact h.one a g1 b g2 e fun z hz hza=>(hfz2 z hz hza).2
    ·simp only [if_true];have:=zIY r y.1.i (by rw [QI h.toSimW,hd];rfl);exact ⟨this,h⟩
end Go.Dm
end
section
namespace Go.Dm
open Go
theorem zI0 {t:List It} {c:Cl} (h:(doP t c).2.e≠0):(doP t c).1=t:=by
 unfold doP at h ⊢;split
 ·rfl
 ·rename_i h1;rw [if_neg h1] at h;split
  ·rfl
  ·rename_i h2;rw [if_neg h2] at h;split
   ·rfl
   ·rename_i h3;rw [if_neg h3] at h;split
    ·rename_i h4;rw [if_pos h4] at h;exact absurd rfl h
    ·rfl
end Go.Dm
end
section
namespace Go.Dm
open Go
def PK (x:List It × Int):Prop:=x.2=0→OkT x.1
theorem VW {c:Prop} [Decidable c] {a b:List It × Int} (ha:c→PK a) (hb:¬ c→PK b):PK (if c then a else b):=by
 split
 ·exact ha (by assumption)
 ·exact hb (by assumption)
theorem QW {l:List It} {e:Int} (h:e≠0):PK (l,e):=fun he=>absurd he h
theorem zGC {l:List It} {e:Int} (h:(!(e == 0))=true):PK (l,e):=QW (by simpa using h)
section
attribute [local irreducible] lV nN vN
theorem zGT {t:List It} (h:OkT t) {p:List UInt8} {is:Bool} {kind:Int} {c:Cl} (hc:c.t<18446744073709551616):PK (vN t p is kind c):=by
 unfold vN
 repeat' refine VW (fun _=>?_) fun _=>?_
 all_goals first
  | (exact QW (by decide))
  | exact fun he=>h.put (show cY c.t<_ from oF hc) he
theorem zEN {t:List It} (h:OkT t) {p:List UInt8} {is:Bool} {n:Nd} {c:Cl} (hn:n.t<18446744073709551616) (hc:c.t<18446744073709551616):PK (bY t p is n c):=by
 have hb:cY c.t<18446744073709551616:=oF hc;unfold bY zL zIx qD AM AG
 repeat' refine VW (fun _=>?_) fun _=>?_
 all_goals first
  | exact zGT h hc
  | (exact QW (by decide))
  | (exact zGC (by assumption))
  | exact fun _=>h
  | exact fun _=>h.remove _
  | exact fun he=>h.put hb he
  | exact fun he=>h.put (show n.t<_ from hn) he
  | exact fun he=>(h.remove _).move he
end
theorem zLh {t:List It} (h:OkT t) {c:Cl} (hc:c.t<18446744073709551616):OkT (doP t c).1:=by
 unfold doP;split
 ·exact h
 ·split
  ·exact h
  ·split
   ·exact h
   ·split
    ·rename_i h4;refine zEN h ?_ hc (eq_of_beq h4);unfold nodeAt;split
     ·exact Nat.zero_lt_succ _
     ·exact h.gett _
    ·exact h
theorem zBR {t:List It} {c:Cl} (h:fI c.k=false):(doP t c).1=t:=by
 unfold doP;rw [h];simp only [Bool.not_false,if_true];split
 ·rfl
 ·split <;> rfl
theorem zR {t:List It} (h:OkT t):fT t t=true:=zQ fun x hx=>h.tlen x hx
end Go.Dm
end
section
namespace Go.Dm
open Go Go.Sort Go.Proofs
structure Cf where
 p:List UInt8
 k:Int
deriving DecidableEq
structure Pr where
 a:List UInt8
 b:List UInt8
deriving DecidableEq
def Cf.cs (x:Cf):List PV:=[.s x.p,.i .i64 x.k]
def Pr.cs (x:Pr):List PV:=[.s x.a,.s x.b]
def HN (l:List Cf):List (List PV):=l.map Cf.cs
theorem zFW (t:List Cf):(HN t).length=t.length:=by simp [HN]
theorem zFX:HN []=[]:=rfl
theorem zFV (a b:List Cf):HN a++HN b=HN (a++b):=by simp [HN]
theorem zCc (a:List Cf) (n:Nat):(HN a).take n=HN (a.take n):=by simp [HN]
theorem zCa (a:List Cf) (n:Nat):(HN a).drop n=HN (a.drop n):=by simp [HN]
theorem zFY (t:List Cf):(∀ x∈HN t,x.length=2)=True:=eq_true fun x hx=>by
 simp only [HN,List.mem_map] at hx;obtain ⟨y,_,rfl⟩:=hx;rfl
theorem zCb (t:List Cf) (p:List UInt8) (k:Int):HN t++[[.s p,.i .i64 k]]=HN (t++[⟨p,k⟩]):=by simp [HN,Cf.cs]
attribute [go_sem] zFW zFX zFV zCc zCa zFY zCb
def HO (l:List Pr):List (List PV):=l.map Pr.cs
theorem zGd (t:List Pr):(HO t).length=t.length:=by simp [HO]
theorem zGe:HO []=[]:=rfl
theorem zGc (a b:List Pr):HO a++HO b=HO (a++b):=by simp [HO]
theorem zCt (a:List Pr) (n:Nat):(HO a).take n=HO (a.take n):=by simp [HO]
theorem zCr (a:List Pr) (n:Nat):(HO a).drop n=HO (a.drop n):=by simp [HO]
theorem zGf (t:List Pr):(∀ x∈HO t,x.length=2)=True:=eq_true fun x hx=>by
 simp only [HO,List.mem_map] at hx;obtain ⟨y,_,rfl⟩:=hx;rfl
theorem zCs (t:List Pr) (a b:List UInt8):HO t++[[.s a,.s b]]=HO (t++[⟨a,b⟩]):=by simp [HO,Pr.cs]
attribute [go_sem] zGd zGe zGc zCt zCr zGf zCs
end Go.Dm
end
section
namespace Go.Dm
open Go Go.Sort
theorem VU (p:List UInt8) (b:List It):∀ a:List It,aQ (a++b) p=match aQ a p with
  | some n=>some n
  | none=>aQ b p
 | []=>rfl
 | x::a=>by
  rw [List.cons_append,aQ,aQ];split
  ·rfl
  ·exact VU p b a
end Go.Dm
end
section
namespace Go.Dm
open Go Go.Sort
structure OkS (t:List It):Prop where
 srt:Srt t
 ne:∀ x∈t,x.p≠[]
 plen:∀ x∈t,x.p.length≤1000
 dlen:∀ x∈t,x.n.d.length≤2000
 tlen:∀ x∈t,x.n.t<18446744073709551616
 len:t.length≤120
theorem OkT.s {t:List It} (h:OkT t):OkS t:=⟨h.srt,h.ne,fun x hx=>Nat.le_trans (h.plen x hx) (by decide),h.dlen,h.tlen,h.len⟩
theorem OkS.getd {t:List It} (h:OkS t) (p:List UInt8):((aQ t p).getD nd0).d.length≤2000:=by
 cases hg:aQ t p with
 | none=>simp [nd0]
 | some n=>obtain ⟨x,hx,_,e⟩:=bZ hg;rw [Option.getD_some,← e];exact h.dlen x hx
theorem OkS.gett {t:List It} (h:OkS t) (p:List UInt8):((aQ t p).getD nd0).t<18446744073709551616:=by
 cases hg:aQ t p with
 | none=>simp [nd0]
 | some n=>obtain ⟨x,hx,_,e⟩:=bZ hg;rw [Option.getD_some,← e];exact h.tlen x hx
theorem ZJ {t:List It} {p:List UInt8} (r:List It) (h:aV t p=true):aV (t++r) p=true:=by
 by_cases hp:p=[]
 ·subst hp;rfl
 ·obtain ⟨m,h1,h2⟩:=cN hp h;exact eU (m:=m) (by rw [VU,h1]) h2
theorem OkT.take {t:List It} (h:OkT t) (k:Nat):OkT (t.take k):=by
 refine ⟨⟨h.srt.sublist (List.take_sublist _ _),fun x hx=>h.its x (List.mem_of_mem_take hx),Nat.le_trans (by rw [List.length_take];omega) h.len⟩,fun x hx=>?_⟩;obtain ⟨j,hj,rfl⟩:=List.mem_iff_getElem.1 hx;have hjk:j<k∧j<t.length:=by rw [List.length_take] at hj;omega
 rw [List.getElem_take];have h1:=CB h (List.getElem?_eq_getElem hjk.2);have h2:=ZJ ((t.take k).drop j) h1;have e:t.take j++(t.take k).drop j=t.take k:=by
  have:=List.take_append_drop j (t.take k);rw [List.take_take,Nat.min_eq_left (by omega)] at this;exact this
 rw [e] at h2;exact h2
end Go.Dm
end
section
namespace Go.Dm
set_option maxRecDepth 100000
def wS (t:List It) (r:List It × Int):List It:=if r.2 == 0 then r.1 else t
theorem TQ {t:List It} {p:List UInt8} {n:Nd} (h:OkT t) (hn:n.t<18446744073709551616):OkT (wS t (lV t p n)):=by
 unfold wS;split
 ·exact h.put hn (eq_of_beq (by assumption))
 ·exact h
end Go.Dm
end
section
namespace Go.Dm
open Go
def SY (r:Rm) (l:Ly) (t:List It):Rm:=if fT (treeR r l.i) t then r else ⟨r.N,r.L,pZ r.E l.i (fX (treeR r l.p) t),r.x⟩
theorem zW {r:Rm} {d:Dr} (h:Sim r d) {y:Ly × List It} (hy:y∈d.L) {t:List It} (ht:OkT t) (hf:t=y.2∨y.1.f=false):Sim (SY r y.1 t) (mC d y.1.i t):=by
 have e:=iJ h.g.inc hy;unfold SY;rw [h.toSimW.treeR,h.toSimW.treeR,e];cases hs:fT y.2 t
 ·rw [if_neg (by decide)];rcases hf with rfl|hf
  ·rw [zR (h.t y hy)] at hs;cases hs
  ·exact zKa h hy hf ht
 ·rw [if_pos rfl];have:=NH (fun x hx=>jE ((h.t y hy).its x hx).2.2.1 ((h.t y hy).tlen x hx)) (fun x hx=>jE (ht.its x hx).2.2.1 (ht.tlen x hx)) hs;rw [← this,← e,PB h.g.inc];exact h
def ER (r:Rm) (s:List UInt8) (c:Cl):Rm × An :=
 if !((dJ r s).2 == 0) then (r,anE (dJ r s).2) else if (dJ r s).1.f && fI c.k then (r,anE 14)
 else (SY r (dJ r s).1 (doP (treeR r (dJ r s).1.i) c).1,(doP (treeR r (dJ r s).1.i) c).2)
theorem zLj {r:Rm} {d:Dr} (h:Sim r d) (s:List UInt8) {c:Cl} (hc:c.t<18446744073709551616):(ER r s c).2=(doD d s c).2∧Sim (ER r s c).1 (doD d s c).1:=by
 unfold ER doD;cases hn:GD d.N s with
 | none =>
  obtain ⟨h1,h2⟩:=oR h.toSimW hn;rw [h1,h2];exact ⟨rfl,h⟩
 | some n =>
  obtain ⟨y,hy,h1,h2,h3,h4,h5⟩:=iN h.toSimW hn;have hy2:=h.t y hy;rw [h1,h2,h5,rE h3,oA h3];rw [show (!((0:Int) == 0))=false from rfl]
  simp only [Bool.false_eq_true,if_false];rw [h.toSimW.treeR,oA h3,← zMK hy2];cases hft:y.1.f && fI c.k
  ·simp only [Bool.false_eq_true,if_false];cases he:((doP y.2 c).2.e == 0)
   ·simp only [Bool.not_false,if_true,true_and];have e1:=zI0 (t:=y.2) (c:=c) (by simpa using he);rw [e1];have:=zW h hy hy2 (.inl rfl);rw [show mC d y.1.i y.2=d by rw [← oA h3,PB h.g.inc]] at this
    exact this
   ·simp only [Bool.not_true,Bool.false_eq_true,if_false,true_and];refine zW h hy (zLh hy2 hc) ?_;cases hf:y.1.f
    ·exact .inr rfl
    ·rw [hf,Bool.true_and] at hft;exact .inl (zBR hft)
  ·exact ⟨rfl,h⟩
def kC (r:Rm) (s:List UInt8) (l:List Ch):Rm × Int :=
 if !((wsP r s).2 == 0) then (r,(wsP r s).2) else if !((eG (treeR r (wsP r s).1.i) l).2 == 0) then (r,(eG (treeR r (wsP r s).1.i) l).2)
 else (SY r (wsP r s).1 (eG (treeR r (wsP r s).1.i) l).1,0)
def BH (d:Dr) (s:List UInt8) (l:List Ch):Dr × Int :=
 if gH d.N s == 0 then (d,6) else if pM d (gH d.N s) then (d,14) else if !((eG (dE d (gH d.N s)) l).2 == 0) then (d,(eG (dE d (gH d.N s)) l).2)
 else (mC d (gH d.N s) (eG (dE d (gH d.N s)) l).1,0)
theorem HS {t:List It} {l:List Ch} (ht:OkT t) (hp:∀ x∈l,x.n.t<18446744073709551616) (he:(eG t l).2=0):OkT (eG t l).1:=by
 unfold eG at he ⊢;split at he
 ·cases he
 ·rename_i h1;split at he
  ·cases he
  ·rename_i h2;split at he
   ·cases he
   ·rename_i h3;split at he
    ·cases he
    ·rename_i h4;rw [if_neg h1,if_neg h2,if_neg h3,if_neg h4];refine MT (fun y hy=>?_) (by simpa using h4);rcases zDw hy with ⟨c,hc,rfl⟩|hy
     ·exact hp c hc
     ·exact ht.tlen y hy
theorem zA3 {r:Rm} {d:Dr} (h:Sim r d) (s:List UInt8) {l:List Ch} (hl:∀ x∈l,x.n.t<18446744073709551616):(kC r s l).2=(BH d s l).2∧Sim (kC r s l).1 (BH d s l).1:=by
 unfold kC BH wsP;cases hn:GD d.N s with
 | none =>
  obtain ⟨h1,h2⟩:=oR h.toSimW hn;rw [h1,h2];exact ⟨rfl,h⟩
 | some n =>
  obtain ⟨y,hy,h1,h2,h3,h4,h5⟩:=iN h.toSimW hn;have hy2:=h.t y hy;rw [h1,h2,h5,rE h3,oA h3];cases hf:y.1.f;rotate_left 1
  ·exact ⟨rfl,h⟩
  ·rw [show ((0:Int) == 0 && false)=false from rfl]
   simp only [Bool.false_eq_true,if_false];rw [show (!((0:Int) == 0))=false from rfl]
   simp only [Bool.false_eq_true,if_false];rw [h.toSimW.treeR,oA h3];cases he:((eG y.2 l).2 == 0)
   ·exact ⟨rfl,h⟩
   ·simp only [Bool.not_true,Bool.false_eq_true,if_false,true_and];exact zW h hy (HS hy2 hl (by simpa using he)) (.inr hf)
end Go.Dm
end
section
namespace Go.Dm
open Go
def fM:List UInt8:=[109,97,105,110]
def zKR:Rm:=⟨[⟨fM,2⟩],[⟨1,0,0,true⟩,⟨2,1,0,false⟩],[],3⟩
theorem GA:Sim zKR PI:=by
 have hg:OkG PI.G:=(zEk (by decide +kernel)).1;have hm:∀ y∈PI.L,y=(⟨1,0,0,true⟩,[])∨y=(⟨2,1,0,false⟩,[]):=fun y hy=>by
  simpa [PI] using hy
 refine { g:=hg,t:=fun y hy=>?_,srt:=List.pairwise_singleton _ _,nm:=fun n hn=>?_,one:=fun n hn m hm2 _ _=>?_,nx:=⟨fun y hy=>?_,by decide,by decide⟩,ln:=by decide,N:=rfl,L:=rfl,x:=rfl,e:=fun y hy=>?_,kept:=fun y hy=>?_,len:=by decide }
 ·rcases hm y hy with rfl|rfl <;> exact OkT.nil
 ·obtain rfl:n=⟨fM,2⟩:=by simpa [PI,fM] using hn
  exact ⟨by decide +kernel,(⟨2,1,0,false⟩,[]),by simp [PI],rfl⟩
 ·rw [show n=⟨fM,2⟩ by simpa [PI,fM] using hn,show m=⟨fM,2⟩ by simpa [PI,fM] using hm2]
 ·rcases hm y hy with rfl|rfl <;> decide
 ·have e:∀ a,dE PI a=[]:=fun a=>by
   unfold dE;split
   ·rename_i y hy;rcases hm y (lQ hy).1 with rfl|rfl <;> rfl
   ·rfl
  rw [e];rcases hm y hy with rfl|rfl <;> rfl
 ·refine ⟨⟨fM,2⟩,by simp [PI,fM],?_⟩
  rcases hm y hy with rfl|rfl <;> decide +kernel
end Go.Dm
end
section
namespace Go.Dm
open Go
def cB (r:Rm):aC:=[.box [.own 1 0 r.N.length,.own 2 0 r.L.length,.mp 3,.p (.i .i64 r.x)],.arr 2 (bM r.N) false,.arr 4 (cZ r.L) false,.mp (oL r.E)]
def AtN (N:List Nm) (s:List UInt8) (i:Nat):Prop:=i≤N.length∧∀ (k:Nat) (x:Nm),N[k]? = some x→(k<i→bL x.n s=true)∧(i≤k→bL x.n s=false)
theorem zBa {s:List UInt8}:∀ {N:List Nm} {i:Nat},AtN N s i→pU N s=i
 | [],i,h=>by have:=h.1;simp at this;subst this;rfl
 | x::N,0,h=>by
  have:=(h.2 0 x rfl).2 (Nat.le_refl _);unfold pU;rw [List.takeWhile_cons,if_neg (by rw [this];decide)];rfl
 | x::N,i+1,h=>by
  have h0:=(h.2 0 x rfl).1 (by omega);have ih:=zBa (N:=N) (i:=i) (s:=s) ⟨by have:=h.1;simp only [List.length_cons] at this;omega,fun k y hy=>⟨fun hk=>(h.2 (k+1) y (by simpa using hy)).1 (by omega),fun hk=>(h.2 (k+1) y (by simpa using hy)).2 (by omega)⟩⟩
  unfold pU at ih ⊢;rw [List.takeWhile_cons,if_pos h0,List.length_cons,ih]
theorem zJH {N:List Nm} (h:HQ N) {s:List UInt8} {i:Nat} (ha:AtN N s i):WB N s=(match N[i]? with
  | some x=>x.n == s
  | none=>false):=by
 have e:=zBa ha;cases hi:N[i]? with
 | none =>
  simp only;unfold WB;rw [List.any_eq_false];intro x hx;obtain ⟨k,hk⟩:=List.mem_iff_getElem?.1 hx;have hk2:k<i:=by
   have h1:=(List.getElem?_eq_some_iff.1 hk).1;have h2:N.length≤i:=by
    rcases Nat.lt_or_ge i N.length with h|h
    ·rw [List.getElem?_eq_getElem h] at hi;cases hi
    ·exact h
   omega
  have:=jT ((ha.2 k x hk).1 hk2);rw [this];decide
 | some y =>
  simp only;cases hy:y.n == s
  ·rw [Bool.eq_false_iff];intro hn;unfold WB at hn;obtain ⟨x,hx,hxs⟩:=List.any_eq_true.1 hn;have hxs:=eq_of_beq hxs;subst hxs;have:=RS h hx;rw [e,hi] at this;cases this;simp at hy
  ·exact List.any_eq_true.2 ⟨y,List.mem_of_getElem? hi,hy⟩
theorem zDJ {N:List Nm} (h:HQ N) {s:List UInt8}:(WB N s=false∧GD N s=none)∨∃ x,WB N s=true∧GD N s=some x∧N[pU N s]? = some x∧x.n=s:=by
 cases hn:GD N s with
 | none =>
  left;rw [← RT,hn];exact ⟨rfl,rfl⟩
 | some x =>
  right;obtain ⟨h1,h2⟩:=iH hn;refine ⟨x,by rw [← RT,hn];rfl,rfl,?_,h2⟩
  rw [← h2];exact RS h h1
structure OkR (r:Rm):Prop where
 srt:HQ r.N
 nl:r.N.length≤900
 ll:r.L.length≤900
 ent:∀ x∈r.L,OkE (jP r.E x.i)
 x:0≤r.x∧r.x≤2147483647
theorem BJ {l:List Ly}:∀ {n:Nat} {id a:Int},a∈dY l n id→∃ x∈l,x.i=a
 | 0,_,_,h=>by cases h
 | n+1,id,a,h=>by
  simp only [dY] at h;split at h
  ·rename_i x hx;rcases List.mem_cons.1 h with rfl|h
   ·exact ⟨x,(nB hx).1,rfl⟩
   ·exact BJ h
  ·cases h
theorem OkR.layers {r:Rm} (h:OkR r) (id:Int):∀ l∈lR r id,OkE l:=fun l hl=>by
 obtain ⟨a,ha,rfl⟩:=List.mem_map.1 hl;obtain ⟨x,hx,rfl⟩:=BJ (List.mem_reverse.1 ha);exact h.ent x hx
attribute [go_sem] cB
end Go.Dm
end
