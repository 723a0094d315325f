/- Part 26 of the proof of roomDeep_card, set without needless blanks. No condition. -/
import Derived.Test.YtlbfnbldeefgmaaGreatDoorC24
import Derived.Test.YtlbfnbldeefgmaaGreatDoorC19
set_option linter.all false
section
namespace Go.Dm
open Go
theorem AB {r:Rm} {d:Dr} (h:SimW r d) {N:List Nm} (hs:DW N) (hn:∀ n∈N,bE n.n=true∧∃ y∈d.L,y.1.i=n.l)
  (h1:∀ n∈N,∀ m∈N,n.l=m.l→(∀ y∈d.L,y.1.i=n.l→y.1.f=false)→n=m) (hl:N.length≤20):SimW ⟨N,r.L,r.E,r.x⟩ ⟨d.L,N,d.x⟩ :=
 { g:=h.g,t:=h.t,srt:=hs,nm:=hn,one:=h1,nx:=h.nx,ln:=hl,N:=rfl,L:=h.L,x:=h.x,e:=h.e }
theorem nD {id:Int}:∀ {l:List (Ly × List It)},mV (l.map (·.1))→vB id l=l.map fun y=>(xL id y.1,y.2)
 | [],_=>rfl
 | y::l,h=>by
  have h2:=List.pairwise_cons.1 h;simp only [vB,List.map_cons];split
  ·rename_i hy;have hy:=eq_of_beq hy;have e1:xL id y.1=⟨y.1.i,y.1.p,y.1.s,true⟩:=by unfold xL;rw [show (y.1.i == id)=true by simpa using hy,Bool.or_true]
   rw [e1]
   congr 1
   have key:∀ z∈l,(xL id z.1,z.2)=z:=fun z hz=>by
    have:y.1.i<z.1.i:=h2.1 z.1 (List.mem_map.2 ⟨z,hz,rfl⟩);unfold xL;rw [show (z.1.i == id)=false by simp;omega,Bool.or_false]
   exact ((List.map_congr_left key).trans (List.map_id' l)).symm
  ·rename_i hy;have e1:xL id y.1=y.1:=by unfold xL;rw [show (y.1.i == id)=false by simpa using hy,Bool.or_false]
   rw [e1,nD h2.2]
def zGD (d:Dr) (id:Int):Dr:=⟨vB id d.L,d.N,d.x⟩
theorem zAr {d:Dr} (hi:mV d.G) (id:Int):(zGD d id).G=lM d.G id:=by
 show (vB id d.L).map (·.1)=_
 rw [nD hi];unfold lM Dr.G;rw [List.map_map,List.map_map];rfl
theorem tI {d:Dr} (hi:mV d.G) {id:Int} {y:Ly × List It} (h:y∈(zGD d id).L):∃ z∈d.L,y=(xL id z.1,z.2):=by
 have h:y∈vB id d.L:=h;rw [nD hi] at h;obtain ⟨z,h1,h2⟩:=List.mem_map.1 h;exact ⟨z,h1,h2.symm⟩
theorem fO {d:Dr} (hi:mV d.G) {id:Int} {z:Ly × List It} (h:z∈d.L):(xL id z.1,z.2)∈(zGD d id).L:=by
 show _∈vB id d.L;rw [nD hi];exact List.mem_map.2 ⟨z,h,rfl⟩
theorem BP {d:Dr} (h:OkW d) (id a:Int):dJ (zGD d id) a=dJ d a:=by
 have hi:mV (zGD d id).G:=by rw [zAr h.g.inc];exact (zFw h.g id).inc
 cases hl:pP d a with
 | none =>
  have hno:=CD hl;rw [jF hno,jF fun y hy=>?_];obtain ⟨z,h1,rfl⟩:=tI h.g.inc hy;exact hno z h1
 | some y =>
  obtain ⟨h1,rfl⟩:=kQ hl;rw [hD h.g.inc h1];exact hD hi (y:=(xL id y.1,y.2)) (fO h.g.inc (id:=id) h1)
theorem wZ {r:Rm} {d:Dr} (h:SimW r d) (id:Int):SimW ⟨r.N,lM r.L id,r.E,r.x⟩ (zGD d id):=by
 refine { g:=by rw [zAr h.g.inc];exact zFw h.g id,t:=fun y hy=>?_,srt:=h.srt,nm:=fun n hn=>?_,one:=fun n hn m hm e hf=>?_,nx:=⟨fun y hy=>?_,h.nx.2⟩,ln:=h.ln,N:=h.N,L:=by rw [zAr h.g.inc,← h.L],x:=h.x,e:=fun y hy=>?_ }
 ·obtain ⟨z,h1,rfl⟩:=tI h.g.inc hy;exact h.t z h1
 ·obtain ⟨h1,y,h2,h3⟩:=h.nm n hn;exact ⟨h1,_,fO h.g.inc (id:=id) h2,h3⟩
 ·refine h.one n hn m hm e fun y h2 h3=>?_;have:=hf _ (fO h.g.inc (id:=id) h2) h3;simp only [xL,Bool.or_eq_false_iff] at this;exact this.1
 ·obtain ⟨z,h1,rfl⟩:=tI h.g.inc hy;exact h.nx.1 z h1
 ·obtain ⟨z,h1,rfl⟩:=tI h.g.inc hy;show iX r.E z.1.i=fR (dJ (zGD d id) z.1.p) z.2;rw [BP h.toOkW];exact h.e z h1
def sY (d:Dr) (s:List UInt8) (p q:Int) (t:List It):Dr:=⟨d.L++[(⟨d.x,p,q,false⟩,t)],bY d.N s d.x,d.x+1⟩
theorem zDY (d:Dr) (s:List UInt8) (p q:Int) (t:List It):zDX d s p q t=vK (sY d s p q t):=rfl
theorem zA3 (d:Dr) (s:List UInt8) (p q:Int) (t:List It):(sY d s p q t).G=d.G++[⟨d.x,p,q,false⟩]:=by
 unfold sY Dr.G;rw [List.map_append];rfl
def AU (d:Dr) (p:Int):Prop:=∃ y∈d.L,y.1.i=p∧y.1.f=true
theorem AH {d:Dr} {p:Int} (h:AU d p):eS d.G d.G.length p:=by
 obtain ⟨y,h1,h2,h3⟩:=h;obtain ⟨k,hk⟩:=List.mem_iff_getElem?.1 (oV h1);exact .inr ⟨k,y.1,(List.getElem?_eq_some_iff.1 hk).1,hk,h2,h3⟩
theorem GW {d:Dr} (h:OkW d) {s:List UInt8} {p q:Int} {t:List It} (hi:mV (sY d s p q t).G) (a:Int) (ha:a≠d.x):dJ (sY d s p q t) a=dJ d a:=by
 cases hl:pP d a with
 | none =>
  have hno:=CD hl;rw [jF hno,jF fun y hy=>?_];rcases List.mem_append.1 (show y∈d.L++[_] from hy) with h1|h1
  ·exact hno y h1
  ·rw [List.mem_singleton] at h1;subst h1;exact fun e=>ha e.symm
 | some y =>
  obtain ⟨h1,rfl⟩:=kQ hl;rw [hD h.g.inc h1];exact hD hi (show y∈d.L++[_] from List.mem_append_left _ h1)
theorem JC {r:Rm} {d:Dr} (h:SimW r d) {s:List UInt8} {p q:Int} {t:List It} (hs:bE s=true) (hp:AU d p) (hq:q=0∨(p≠q∧AU d q)) (hc:(bM d.G p).length≤11) (ht:OkT t)
  (hx:d.x<2147483647) (hn:(bY d.N s d.x).length≤20):SimW ⟨bY r.N s r.x,r.L++[⟨r.x,p,q,false⟩],oJ r.E r.x (fR (dJ d p) t),r.x+1⟩ (sY d s p q t):=by
 have hz:∀ x∈d.G,x.i<d.x:=fun x hx=>by
  obtain ⟨y,hy,rfl⟩:=LU.1 hx;exact h.nx.1 y hy
 have hp1:1≤p∧p<d.x:=by
  obtain ⟨y,h1,rfl,_⟩:=hp;exact ⟨h.g.lo1 _ (oV h1),h.nx.1 y h1⟩
 have hg:OkG (sY d s p q t).G:=by
  rw [zA3];refine zGG h.g hz ⟨h.nx.2.1,by have:=h.nx.2.2;simp only;omega⟩ (AH hp) ?_ (fun h0=>?_) hc
  ·rcases hq with rfl|⟨_,hq⟩
   ·exact .inl rfl
   ·exact AH hq
  ·rcases hq with rfl|⟨hq,_⟩
   ·exact absurd rfl h0
   ·exact ⟨by show p≠0;omega,hq⟩
 have hmem:∀ y,y∈(sY d s p q t).L↔y∈d.L∨y=(⟨d.x,p,q,false⟩,t):=fun y=>by
  show y∈d.L++[_]↔_;rw [List.mem_append,List.mem_singleton]
 have hN:∀ n,n∈(sY d s p q t).N↔n=⟨s,d.x⟩∨(n∈d.N∧n.n≠s):=fun n=>uA h.srt;have old:∀ n∈d.N,n.l≠d.x:=fun n hn e=>by
  obtain ⟨y,_,h1,h2⟩:=h.toOkW.named hn;have:=h.nx.1 y h1;omega
 refine { g:=hg,t:=fun y hy=>?_,srt:=lN h.srt s d.x,nm:=fun n hnn=>?_,one:=fun n hnn m hmm e hf=>?_,nx:=⟨fun y hy=>?_,by show 1≤d.x+1;have:=h.nx.2.1;omega,by show d.x+1≤2147483647;omega⟩,ln:=hn,N:=by show bY r.N s r.x=bY d.N s d.x;rw [h.N,h.x],L:=by rw [zA3,← h.L,← h.x],x:=by show r.x+1=d.x+1;rw [h.x],e:=fun y hy=>?_ }
 ·rcases (hmem y).1 hy with h1|rfl
  ·exact h.t y h1
  ·exact ht
 ·rcases (hN n).1 hnn with rfl|⟨h1,_⟩
  ·exact ⟨hs,_,(hmem _).2 (.inr rfl),rfl⟩
  ·obtain ⟨h2,y,h3,h4⟩:=h.nm n h1;exact ⟨h2,y,(hmem y).2 (.inl h3),h4⟩
 ·rcases (hN n).1 hnn with rfl|⟨h1,h2⟩ <;> rcases (hN m).1 hmm with rfl|⟨h3,h4⟩
  ·rfl
  ·exact absurd e.symm (old m h3)
  ·exact absurd e (old n h1)
  ·exact h.one n h1 m h3 e fun y h5 h6=>hf y ((hmem y).2 (.inl h5)) h6
 ·show y.1.i<d.x+1;rcases (hmem y).1 hy with h1|rfl
  ·have:=h.nx.1 y h1;omega
  ·simp only;omega
 ·show iX (oJ r.E r.x _) y.1.i=_;rcases (hmem y).1 hy with h1|rfl
  ·have hlt:=h.nx.1 y h1;rw [nI _ _ (by rw [h.x];omega),h.e y h1,GW h.toOkW hg.inc];rcases h.toOkW.below h1 with h2|⟨z,h2,h3,_⟩
   ·rw [h2];have:=h.nx.2.1;omega
   ·rw [← h3];have:=h.nx.1 z h2;omega
  ·rw [h.x];simp only;rw [pY,GW h.toOkW hg.inc p (by omega)]
def cU (r:Rm) (s:List UInt8):Ly × Int:=match HA r.N s with
 | some n=>((eA r.L n.l).getD ly0,0)
 | none=>(ly0,6)
def wsP (r:Rm) (s:List UInt8):Ly × Int:=if (cU r s).2 == 0 && (cU r s).1.f then (ly0,14) else cU r s
def pM (r:Rm) (s:List UInt8):Int:=if !bE s then 1 else if PL r.N s then 7 else if decide (20≤(r.N.length:Int)) || (decide (40≤(r.L.length:Int)) || decide (2147483647≤r.x)) then 16 else 0
def qX (r:Rm) (on:Int):Int:=if decide (12≤((bM r.L on).length:Int)) then 15 else 0
def NN (r:Rm):Rm:=⟨r.N,iG r.L (lI r.N),yF (iG r.L (lI r.N)) r.E,r.x⟩
def zH0 (r:Rm) (s:List UInt8) (p q:Int) (es:List En):Rm:=NN ⟨bY r.N s r.x,r.L++[⟨r.x,p,q,false⟩],oJ r.E r.x es,r.x+1⟩
def fD (r:Rm) (s sn:List UInt8):Rm × Int :=
 if !((wsP r s).2 == 0) then (r,(wsP r s).2) else if !(pM r sn == 0) then (r,pM r sn) else if !(qX r (wsP r s).1.i == 0) then (r,qX r (wsP r s).1.i)
 else (zH0 ⟨bY r.N sn (wsP r s).1.i,lM r.L (wsP r s).1.i,r.E,r.x⟩ s (wsP r s).1.i 0 [],0)
theorem nG {r:Rm} {d:Dr} (h:SimW r d) {s:List UInt8} {n:Nm} (hn:HA d.N s=some n):∃ y∈d.L,cU r s=(y.1,0)∧gN d.N s=y.1.i∧pP d y.1.i=some y∧y.1.i=n.l∧(y.1.i == 0)=false:=by
 obtain ⟨h1,h2⟩:=gY hn;obtain ⟨y,h3,h4,h5⟩:=h.toOkW.named h1;refine ⟨y,h4,?_,by unfold gN;rw [hn,h5],by rw [h5];exact h3,h5,?_⟩
 ·unfold cU;rw [h.N,hn];show ((eA r.L n.l).getD ly0,(0:Int))=_;rw [h.L,zFu,h3];rfl
 ·have:=h.g.lo1 _ (oV h4);simp only [beq_eq_false_iff_ne,ne_eq];omega
theorem nF {r:Rm} {d:Dr} (h:SimW r d) {s:List UInt8} (hn:HA d.N s=none):cU r s=(ly0,6)∧(gN d.N s == 0)=true:=by
 refine ⟨by unfold cU;rw [h.N,hn],?_⟩
 rw [h.toOkW.name0,hn];rfl
theorem FY {d:Dr} {y:Ly × List It} (h:pP d y.1.i=some y):rH d y.1.i=y.1.f:=by unfold rH;rw [h]
theorem rW {d:Dr} {y:Ly × List It} (h:pP d y.1.i=some y):dJ d y.1.i=y.2:=by unfold dJ;rw [h]
theorem PE {r:Rm} {d:Dr} (h:SimW r d) (s:List UInt8):pM r s=uZ d s:=by
 unfold pM uZ;rw [h.toOkW.name0,LZ,h.N,h.L,h.x,show d.G.length=d.L.length by simp [Dr.G],Bool.not_not]
theorem PF {d:Dr} {s:List UInt8} (h:(uZ d s == 0)=true):bE s=true∧gN d.N s=0∧d.N.length<20∧d.L.length<40∧d.x<2147483647:=by
 unfold uZ at h;split at h
 ·cases h
 ·rename_i h1;split at h
  ·cases h
  ·rename_i h2;split at h
   ·cases h
   ·rename_i h3;simp only [Bool.or_eq_true,decide_eq_true_eq,not_or,Bool.not_eq_true,Bool.not_eq_false',beq_iff_eq] at h1 h2 h3;exact ⟨h1,h2,by omega,by omega,by omega⟩
theorem KR {r:Rm} {d:Dr} (h:SimW r d) (on:Int):(qX r on == 0) = !RE d on:=by
 unfold qX RE;rw [h.L];by_cases hc:12≤(bM d.G on).length
 ·rw [if_pos (by simp;omega),show decide (12<(((bM d.G on).length:Int)+1))=true by simp;omega];rfl
 ·rw [if_neg (by simp;omega),show decide (12<(((bM d.G on).length:Int)+1))=false by simp;omega];rfl
theorem zGa (r:Rm) (on:Int) (h:(qX r on == 0)=false):qX r on=15:=by
 unfold qX at h ⊢;split at h
 ·rename_i h1;rw [if_pos h1]
 ·cases h
theorem PT {d:Dr} {on:Int} (h:RE d on=false):(bM d.G on).length≤11:=by
 unfold RE at h;simp only [decide_eq_false_iff_not] at h;omega
theorem zHj {r:Rm} {d:Dr} (h:SimW r d) {s:List UInt8} {p q:Int} {t:List It} {es:List En} (hs:bE s=true) (hp:AU d p) (hq:q=0∨(p≠q∧AU d q)) (hc:(bM d.G p).length≤11) (ht:OkT t)
  (hx:d.x<2147483647) (hn:(bY d.N s d.x).length≤20) (he:es=fR (dJ d p) t) (hl:(zDX d s p q t).L.length≤40):Sim (zH0 r s p q es) (zDX d s p q t):=by
 subst he;exact zEN (JC h hs hp hq hc ht hx hn) hl
theorem zD9 (d:Dr) (hi:mV d.G):(vK d).L.length≤d.L.length:=by
 show (zAL d).length≤_;rw [BZ hi];exact List.length_filter_le _ _
theorem zEi {d:Dr} (h:OkW d) (s:List UInt8) (p q:Int) (t:List It):mV (sY d s p q t).G:=by
 rw [zA3];exact BT h.g.inc fun x hx=>by
  obtain ⟨y,hy,rfl⟩:=LU.1 hx;exact h.nx.1 y hy
theorem yP {r:Rm} {d:Dr} (h:Sim r d) (s sn:List UInt8):(fD r s sn).2=(gM d s sn).2∧Sim (fD r s sn).1 (gM d s sn).1:=by
 unfold fD gM wsP;cases hn:HA d.N s with
 | none =>
  obtain ⟨h1,h2⟩:=nF h.toSimW hn;rw [h1,h2];exact ⟨rfl,h⟩
 | some n =>
  obtain ⟨y,hy,h1,h2,h3,h4,h5⟩:=nG h.toSimW hn;rw [h1,h2,h5,FY h3,rW h3];cases hf:y.1.f;rotate_left 1
  ·exact ⟨rfl,h⟩
  ·rw [show ((0:Int) == 0 && false)=false from rfl]
   simp only [Bool.false_eq_true,if_false];rw [show (!((0:Int) == 0))=false from rfl]
   simp only [Bool.false_eq_true,if_false];rw [PE h.toSimW];cases hfr:(uZ d sn == 0)
   ·exact ⟨rfl,h⟩
   ·simp only [Bool.not_true,Bool.false_eq_true,if_false];rw [KR h.toSimW,Bool.not_not];cases hd:RE d y.1.i
    ·simp only [Bool.false_eq_true,if_false,true_and];obtain ⟨f1,f2,f3,f4,f5⟩:=PF hfr;have hwf:=wZ h.toSimW y.1.i;have hmem:∀ n,n∈bY d.N sn y.1.i↔n=⟨sn,y.1.i⟩∨(n∈d.N∧n.n≠sn):=fun n=>uA h.srt;have hwn:=AB hwf (N:=bY d.N sn y.1.i) (lN h.srt sn y.1.i) (fun m hm=>?_) (fun a ha b hb e hfz=>?_) (by have:=pC d.N sn y.1.i;omega)
     ·have hcl:=pC d.N sn y.1.i;have hwn:SimW ⟨bY d.N sn y.1.i,lM r.L y.1.i,r.E,r.x⟩ ⟨vB y.1.i d.L,bY d.N sn y.1.i,d.x⟩:=hwn;have hsn:bE s=true:=by
       obtain ⟨g1,g2⟩:=gY hn;rw [← g2];exact (h.nm n g1).1
      have hfa:AU ⟨vB y.1.i d.L,bY d.N sn y.1.i,d.x⟩ y.1.i:=⟨_,fO h.g.inc (id:=y.1.i) hy,rfl,by show (y.1.f || y.1.i == y.1.i)=true;simp⟩
      have hGeq:(⟨vB y.1.i d.L,bY d.N sn y.1.i,d.x⟩:Dr).G=lM d.G y.1.i:=zAr h.g.inc y.1.i;have hne:sn≠s:=fun e=>by
       subst e;have:=h.toOkW.name0 sn;rw [f2,hn] at this;cases this
      have hin:(⟨n.n,n.l⟩:Nm)∈bY d.N sn y.1.i:=by
       obtain ⟨g1,g2⟩:=gY hn;exact (hmem _).2 (.inr ⟨g1,by rw [g2];exact fun e=>hne e.symm⟩)
      have hlen2:(bY (bY d.N sn y.1.i) s d.x).length≤20:=by
       obtain ⟨g1,g2⟩:=gY hn;rw [← g2,uB (lN h.srt sn y.1.i) hin];rw [List.length_set];omega
      have e0:dJ ⟨vB y.1.i d.L,bY d.N sn y.1.i,d.x⟩ y.1.i=y.2:=(BP h.toOkW y.1.i y.1.i).trans (rW h3);rw [h.N];refine zHj hwn hsn hfa (.inl rfl) (by rw [hGeq,vC];exact PT hd) (h.t y hy) f5 hlen2 ?_ ?_
      ·show []=fR (dJ ⟨vB y.1.i d.L,bY d.N sn y.1.i,d.x⟩ y.1.i) y.2;rw [e0,GU (h.t y hy)]
      ·have h7:=zD9 (sY ⟨vB y.1.i d.L,bY d.N sn y.1.i,d.x⟩ s y.1.i 0 y.2) (zEi hwn.toOkW _ _ _ _);have e:(sY ⟨vB y.1.i d.L,bY d.N sn y.1.i,d.x⟩ s y.1.i 0 y.2).L.length=d.L.length+1:=by
        show (vB y.1.i d.L++[_]).length=_;rw [List.length_append,nD h.g.inc,List.length_map];rfl
       rw [zDY];omega
     ·rcases (hmem m).1 hm with rfl|⟨g1,_⟩
      ·exact ⟨f1,_,fO h.g.inc (id:=y.1.i) hy,rfl⟩
      ·exact hwf.nm m g1
     ·have hfz2:∀ z∈d.L,z.1.i=a.l→z.1.i≠y.1.i∧z.1.f=false:=fun z hz hza=>by
       have:=hfz _ (fO h.g.inc (id:=y.1.i) hz) hza;simp only [xL,Bool.or_eq_false_iff] at this;exact ⟨by simpa using this.2,this.1⟩
      rcases (hmem a).1 ha with rfl|⟨g1,_⟩ <;> rcases (hmem b).1 hb with rfl|⟨g2,_⟩
      ·rfl
      ·exact absurd rfl (hfz2 y hy rfl).1
      ·exact absurd rfl (hfz2 y hy e.symm).1
      ·exact h.one a g1 b g2 e fun z hz hza=>(hfz2 z hz hza).2
    ·simp only [if_true];have:=zGa r y.1.i (by rw [KR h.toSimW,hd];rfl);exact ⟨this,h⟩
end Go.Dm
end
section
namespace Go.Dm
open Go
theorem zGc {t:List It} {c:Cl} (h:(doP t c).2.e≠0):(doP t c).1=t:=by
 unfold doP at h ⊢;split
 ·rfl
 ·rename_i h1;rw [if_neg h1] at h;split
  ·rfl
  ·rename_i h2;rw [if_neg h2] at h;split
   ·rfl
   ·rename_i h3;rw [if_neg h3] at h;split
    ·rename_i h4;rw [if_pos h4] at h;exact absurd rfl h
    ·rfl
end Go.Dm
end
section
namespace Go.Dm
open Go
def JX (x:List It × Int):Prop:=x.2=0→OkT x.1
theorem PI {c:Prop} [Decidable c] {a b:List It × Int} (ha:c→JX a) (hb:¬ c→JX b):JX (if c then a else b):=by
 split
 ·exact ha (by assumption)
 ·exact hb (by assumption)
theorem LF {l:List It} {e:Int} (h:e≠0):JX (l,e):=fun he=>absurd he h
theorem zDW {l:List It} {e:Int} (h:(!(e == 0))=true):JX (l,e):=LF (by simpa using h)
section
attribute [local irreducible] sL mE sX
theorem zEd {t:List It} (h:OkT t) {p:List UInt8} {is:Bool} {kind:Int} {c:Cl} (hc:c.t<18446744073709551616):JX (sX t p is kind c):=by
 unfold sX
 repeat' refine PI (fun _=>?_) fun _=>?_
 all_goals first
  | (exact LF (by decide))
  | exact fun he=>h.put (show cW c.t<_ from pB hc) he
theorem zB8 {t:List It} (h:OkT t) {p:List UInt8} {is:Bool} {n:Nd} {c:Cl} (hn:n.t<18446744073709551616) (hc:c.t<18446744073709551616):JX (bU t p is n c):=by
 have hb:cW c.t<18446744073709551616:=pB hc;unfold bU wR zFJ oK xK xG
 repeat' refine PI (fun _=>?_) fun _=>?_
 all_goals first
  | exact zEd h hc
  | (exact LF (by decide))
  | (exact zDW (by assumption))
  | exact fun _=>h
  | exact fun _=>h.remove _
  | exact fun he=>h.put hb he
  | exact fun he=>h.put (show n.t<_ from hn) he
  | exact fun he=>(h.remove _).move he
end
theorem zIj {t:List It} (h:OkT t) {c:Cl} (hc:c.t<18446744073709551616):OkT (doP t c).1:=by
 unfold doP;split
 ·exact h
 ·split
  ·exact h
  ·split
   ·exact h
   ·split
    ·rename_i h4;refine zB8 h ?_ hc (eq_of_beq h4);unfold nodeAt;split
     ·exact Nat.zero_lt_succ _
     ·exact h.gett _
    ·exact h
theorem zGd {t:List It} {c:Cl} (h:jZ c.k=false):(doP t c).1=t:=by
 unfold doP;rw [h];simp only [Bool.not_false,if_true];split
 ·rfl
 ·split <;> rfl
theorem MZ {t:List It} (h:OkT t):fW t t=true:=wV fun x hx=>h.tlen x hx
end Go.Dm
end
section
namespace Go.Dm
open Go Go.Sort Go.Proofs
structure Cf where
 p:List UInt8
 k:Int
deriving DecidableEq
structure Pr where
 a:List UInt8
 b:List UInt8
deriving DecidableEq
def Cf.cs (x:Cf):List PV:=[.s x.p,.i .i64 x.k]
def Pr.cs (x:Pr):List PV:=[.s x.a,.s x.b]
def DR (l:List Cf):List (List PV):=l.map Cf.cs
theorem zDh (t:List Cf):(DR t).length=t.length:=by simp [DR]
theorem zDi:DR []=[]:=rfl
theorem zDg (a b:List Cf):DR a++DR b=DR (a++b):=by simp [DR]
theorem YZ (a:List Cf) (n:Nat):(DR a).take n=DR (a.take n):=by simp [DR]
theorem YX (a:List Cf) (n:Nat):(DR a).drop n=DR (a.drop n):=by simp [DR]
theorem zDj (t:List Cf):(∀ x∈DR t,x.length=2)=True:=eq_true fun x hx=>by
 simp only [DR,List.mem_map] at hx;obtain ⟨y,_,rfl⟩:=hx;rfl
theorem YY (t:List Cf) (p:List UInt8) (k:Int):DR t++[[.s p,.i .i64 k]]=DR (t++[⟨p,k⟩]):=by simp [DR,Cf.cs]
attribute [go_sem] zDh zDi zDg YZ YX zDj YY
def DT (l:List Pr):List (List PV):=l.map Pr.cs
theorem zDy (t:List Pr):(DT t).length=t.length:=by simp [DT]
theorem zDz:DT []=[]:=rfl
theorem zDx (a b:List Pr):DT a++DT b=DT (a++b):=by simp [DT]
theorem ZQ (a:List Pr) (n:Nat):(DT a).take n=DT (a.take n):=by simp [DT]
theorem ZO (a:List Pr) (n:Nat):(DT a).drop n=DT (a.drop n):=by simp [DT]
theorem zDA (t:List Pr):(∀ x∈DT t,x.length=2)=True:=eq_true fun x hx=>by
 simp only [DT,List.mem_map] at hx;obtain ⟨y,_,rfl⟩:=hx;rfl
theorem ZP (t:List Pr) (a b:List UInt8):DT t++[[.s a,.s b]]=DT (t++[⟨a,b⟩]):=by simp [DT,Pr.cs]
attribute [go_sem] zDy zDz zDx ZQ ZO zDA ZP
end Go.Dm
end
section
namespace Go.Dm
open Go Go.Sort
theorem PG (p:List UInt8) (b:List It):∀ a:List It,aW (a++b) p=match aW a p with
  | some n=>some n
  | none=>aW b p
 | []=>rfl
 | x::a=>by
  rw [List.cons_append,aW,aW];split
  ·rfl
  ·exact PG p b a
end Go.Dm
end
section
namespace Go.Dm
open Go Go.Sort
structure OkS (t:List It):Prop where
 srt:Srt t
 ne:∀ x∈t,x.p≠[]
 plen:∀ x∈t,x.p.length≤1000
 dlen:∀ x∈t,x.n.d.length≤2000
 tlen:∀ x∈t,x.n.t<18446744073709551616
 len:t.length≤120
theorem OkT.s {t:List It} (h:OkT t):OkS t:=⟨h.srt,h.ne,fun x hx=>Nat.le_trans (h.plen x hx) (by decide),h.dlen,h.tlen,h.len⟩
theorem OkS.getd {t:List It} (h:OkS t) (p:List UInt8):((aW t p).getD nd0).d.length≤2000:=by
 cases hg:aW t p with
 | none=>simp [nd0]
 | some n=>obtain ⟨x,hx,_,e⟩:=cD hg;rw [Option.getD_some,← e];exact h.dlen x hx
theorem OkS.gett {t:List It} (h:OkS t) (p:List UInt8):((aW t p).getD nd0).t<18446744073709551616:=by
 cases hg:aW t p with
 | none=>simp [nd0]
 | some n=>obtain ⟨x,hx,_,e⟩:=cD hg;rw [Option.getD_some,← e];exact h.tlen x hx
theorem SK {t:List It} {p:List UInt8} (r:List It) (h:aU t p=true):aU (t++r) p=true:=by
 by_cases hp:p=[]
 ·subst hp;rfl
 ·obtain ⟨m,h1,h2⟩:=cG hp h;exact eO (m:=m) (by rw [PG,h1]) h2
theorem OkT.take {t:List It} (h:OkT t) (k:Nat):OkT (t.take k):=by
 refine ⟨⟨h.srt.sublist (List.take_sublist _ _),fun x hx=>h.its x (List.mem_of_mem_take hx),Nat.le_trans (by rw [List.length_take];omega) h.len⟩,fun x hx=>?_⟩;obtain ⟨j,hj,rfl⟩:=List.mem_iff_getElem.1 hx;have hjk:j<k∧j<t.length:=by rw [List.length_take] at hj;omega
 rw [List.getElem_take];have h1:=yV h (List.getElem?_eq_getElem hjk.2);have h2:=SK ((t.take k).drop j) h1;have e:t.take j++(t.take k).drop j=t.take k:=by
  have:=List.take_append_drop j (t.take k);rw [List.take_take,Nat.min_eq_left (by omega)] at this;exact this
 rw [e] at h2;exact h2
end Go.Dm
end
section
namespace Go.Dm
open Go
def oO (r:Rm) (s:List UInt8):List It × Int:=if !((cU r s).2 == 0) then ([],(cU r s).2) else (treeR r (cU r s).1.i,0)
theorem VP {r:Rm} {d:Dr} (h:SimW r d) (s:List UInt8):oO r s=rV d s:=by
 unfold oO rV;cases hn:HA d.N s with
 | none =>
  obtain ⟨h1,h2⟩:=nF h hn;rw [h1,h2];rfl
 | some n =>
  obtain ⟨y,hy,h1,h2,h3,h4,h5⟩:=nG h hn;rw [h1,h2,h5];show (treeR r y.1.i,(0:Int))=(dJ d y.1.i,0);rw [h.treeR]
theorem zB7 {d:Dr} (h:OkW d) (s:List UInt8):OkT (rV d s).1:=by
 unfold rV;split
 ·exact OkT.nil
 ·exact h.tree _
def zEL (r:Rm) (l:Ly) (t:List It):Rm:=if fW (treeR r l.i) t then r else ⟨r.N,r.L,oJ r.E l.i (fR (treeR r l.p) t),r.x⟩
theorem JD {r:Rm} {d:Dr} (h:Sim r d) {y:Ly × List It} (hy:y∈d.L) {t:List It} (ht:OkT t) (hf:t=y.2∨y.1.f=false):Sim (zEL r y.1 t) (nO d y.1.i t):=by
 have e:=hD h.g.inc hy;unfold zEL;rw [h.toSimW.treeR,h.toSimW.treeR,e];cases hs:fW y.2 t
 ·rw [if_neg (by decide)];rcases hf with rfl|hf
  ·rw [MZ (h.t y hy)] at hs;cases hs
  ·exact zHk h hy hf ht
 ·rw [if_pos rfl];have:=HZ (fun x hx=>iO ((h.t y hy).its x hx).2.2.1 ((h.t y hy).tlen x hx)) (fun x hx=>iO (ht.its x hx).2.2.1 (ht.tlen x hx)) hs;rw [← this,← e,JR h.g.inc];exact h
def RL (r:Rm) (s:List UInt8) (c:Cl):Rm × An :=
 if !((cU r s).2 == 0) then (r,anE (cU r s).2) else if (cU r s).1.f && jZ c.k then (r,anE 14)
 else (zEL r (cU r s).1 (doP (treeR r (cU r s).1.i) c).1,(doP (treeR r (cU r s).1.i) c).2)
theorem zFs {r:Rm} {d:Dr} (h:Sim r d) (s:List UInt8) {c:Cl} (hc:c.t<18446744073709551616):(RL r s c).2=(doD d s c).2∧Sim (RL r s c).1 (doD d s c).1:=by
 unfold RL doD;cases hn:HA d.N s with
 | none =>
  obtain ⟨h1,h2⟩:=nF h.toSimW hn;rw [h1,h2];exact ⟨rfl,h⟩
 | some n =>
  obtain ⟨y,hy,h1,h2,h3,h4,h5⟩:=nG h.toSimW hn;have hy2:=h.t y hy;rw [h1,h2,h5,FY h3,rW h3];rw [show (!((0:Int) == 0))=false from rfl]
  simp only [Bool.false_eq_true,if_false];rw [h.toSimW.treeR,rW h3,← zJG hy2];cases hft:y.1.f && jZ c.k
  ·simp only [Bool.false_eq_true,if_false];cases he:((doP y.2 c).2.e == 0)
   ·simp only [Bool.not_false,if_true,true_and];have e1:=zGc (t:=y.2) (c:=c) (by simpa using he);rw [e1];have:=JD h hy hy2 (.inl rfl);rw [show nO d y.1.i y.2=d by rw [← rW h3,JR h.g.inc]] at this
    exact this
   ·simp only [Bool.not_true,Bool.false_eq_true,if_false,true_and];refine JD h hy (zIj hy2 hc) ?_;cases hf:y.1.f
    ·exact .inr rfl
    ·rw [hf,Bool.true_and] at hft;exact .inl (zGd hft)
  ·exact ⟨rfl,h⟩
end Go.Dm
end
section
namespace Go.Dm
open Go
def dP:List UInt8:=[109,97,105,110]
def zHW:Rm:=⟨[⟨dP,2⟩],[⟨1,0,0,true⟩,⟨2,1,0,false⟩],[],3⟩
theorem LW:Sim zHW LV:=by
 have hg:OkG LV.G:=(zBG (by decide +kernel)).1;have hm:∀ y∈LV.L,y=(⟨1,0,0,true⟩,[])∨y=(⟨2,1,0,false⟩,[]):=fun y hy=>by
  simpa [LV] using hy
 refine { g:=hg,t:=fun y hy=>?_,srt:=List.pairwise_singleton _ _,nm:=fun n hn=>?_,one:=fun n hn m hm2 _ _=>?_,nx:=⟨fun y hy=>?_,by decide,by decide⟩,ln:=by decide,N:=rfl,L:=rfl,x:=rfl,e:=fun y hy=>?_,kept:=fun y hy=>?_,len:=by decide }
 ·rcases hm y hy with rfl|rfl <;> exact OkT.nil
 ·obtain rfl:n=⟨dP,2⟩:=by simpa [LV,dP] using hn
  exact ⟨by decide +kernel,(⟨2,1,0,false⟩,[]),by simp [LV],rfl⟩
 ·rw [show n=⟨dP,2⟩ by simpa [LV,dP] using hn,show m=⟨dP,2⟩ by simpa [LV,dP] using hm2]
 ·rcases hm y hy with rfl|rfl <;> decide
 ·have e:∀ a,dJ LV a=[]:=fun a=>by
   unfold dJ;split
   ·rename_i y hy;rcases hm y (kQ hy).1 with rfl|rfl <;> rfl
   ·rfl
  rw [e];rcases hm y hy with rfl|rfl <;> rfl
 ·refine ⟨⟨dP,2⟩,by simp [LV,dP],?_⟩
  rcases hm y hy with rfl|rfl <;> decide +kernel
end Go.Dm
end
section
namespace Go.Dm
open Go
def cB (r:Rm):aB:=[.box [.own 1 0 r.N.length,.own 2 0 r.L.length,.mp 3,.p (.i .i64 r.x)],.arr 2 (bJ r.N) false,.arr 4 (cY r.L) false,.mp (nN r.E)]
def AtN (N:List Nm) (s:List UInt8) (i:Nat):Prop:=i≤N.length∧∀ (k:Nat) (x:Nm),N[k]? = some x→(k<i→bZ x.n s=true)∧(i≤k→bZ x.n s=false)
theorem WM {s:List UInt8}:∀ {N:List Nm} {i:Nat},AtN N s i→oE N s=i
 | [],i,h=>by have:=h.1;simp at this;subst this;rfl
 | x::N,0,h=>by
  have:=(h.2 0 x rfl).2 (Nat.le_refl _);unfold oE;rw [List.takeWhile_cons,if_neg (by rw [this];decide)];rfl
 | x::N,i+1,h=>by
  have h0:=(h.2 0 x rfl).1 (by omega);have ih:=WM (N:=N) (i:=i) (s:=s) ⟨by have:=h.1;simp only [List.length_cons] at this;omega,fun k y hy=>⟨fun hk=>(h.2 (k+1) y (by simpa using hy)).1 (by omega),fun hk=>(h.2 (k+1) y (by simpa using hy)).2 (by omega)⟩⟩
  unfold oE at ih ⊢;rw [List.takeWhile_cons,if_pos h0,List.length_cons,ih]
theorem zGR {N:List Nm} (h:DW N) {s:List UInt8} {i:Nat} (ha:AtN N s i):PL N s=(match N[i]? with
  | some x=>x.n == s
  | none=>false):=by
 have e:=WM ha;cases hi:N[i]? with
 | none =>
  simp only;unfold PL;rw [List.any_eq_false];intro x hx;obtain ⟨k,hk⟩:=List.mem_iff_getElem?.1 hx;have hk2:k<i:=by
   have h1:=(List.getElem?_eq_some_iff.1 hk).1;have h2:N.length≤i:=by
    rcases Nat.lt_or_ge i N.length with h|h
    ·rw [List.getElem?_eq_getElem h] at hi;cases hi
    ·exact h
   omega
  have:=lC ((ha.2 k x hk).1 hk2);rw [this];decide
 | some y =>
  simp only;cases hy:y.n == s
  ·rw [Bool.eq_false_iff];intro hn;unfold PL at hn;obtain ⟨x,hx,hxs⟩:=List.any_eq_true.1 hn;have hxs:=eq_of_beq hxs;subst hxs;have:=LY h hx;rw [e,hi] at this;cases this;simp at hy
  ·exact List.any_eq_true.2 ⟨y,List.mem_of_getElem? hi,hy⟩
theorem zBb {N:List Nm} (h:DW N) {s:List UInt8}:(PL N s=false∧HA N s=none)∨∃ x,PL N s=true∧HA N s=some x∧N[oE N s]? = some x∧x.n=s:=by
 cases hn:HA N s with
 | none =>
  left;rw [← LZ,hn];exact ⟨rfl,rfl⟩
 | some x =>
  right;obtain ⟨h1,h2⟩:=gY hn;refine ⟨x,by rw [← LZ,hn];rfl,rfl,?_,h2⟩
  rw [← h2];exact LY h h1
structure OkR (r:Rm):Prop where
 srt:DW r.N
 nl:r.N.length≤900
 ll:r.L.length≤900
 ent:∀ x∈r.L,OkE (iX r.E x.i)
 x:0≤r.x∧r.x≤2147483647
theorem yE {l:List Ly}:∀ {n:Nat} {id a:Int},a∈dW l n id→∃ x∈l,x.i=a
 | 0,_,_,h=>by cases h
 | n+1,id,a,h=>by
  simp only [dW] at h;split at h
  ·rename_i x hx;rcases List.mem_cons.1 h with rfl|h
   ·exact ⟨x,(lT hx).1,rfl⟩
   ·exact yE h
  ·cases h
theorem OkR.layers {r:Rm} (h:OkR r) (id:Int):∀ l∈kR r id,OkE l:=fun l hl=>by
 obtain ⟨a,ha,rfl⟩:=List.mem_map.1 hl;obtain ⟨x,hx,rfl⟩:=yE (List.mem_reverse.1 ha);exact h.ent x hx
attribute [go_sem] cB
end Go.Dm
end
