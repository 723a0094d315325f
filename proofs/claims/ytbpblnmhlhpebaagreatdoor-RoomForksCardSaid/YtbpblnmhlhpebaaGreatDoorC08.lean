/- Part 9 of the proof of roomForks_card, set without needless blanks. No condition. -/
import Derived.Test.YtbpblnmhlhpebaaGreatDoorC04
import Derived.Test.YtbpblnmhlhpebaaGreatDoorC05
import Derived.Test.YtbpblnmhlhpebaaGreatDoorC07
set_option linter.unusedSimpArgs false
set_option linter.unusedVariables false
set_option maxRecDepth 100000
namespace Go.Proofs.YtbpblnmhlhpebaaGreatDoor
open Go Go.Dm Go.RowKit Go.ChangeShapes Go.WideShapes
section
theorem own:ownKnob Tryz.prog.godebug=none:=by kernel_rfl
theorem laidOut:laidOutB Tryz.prog=true:=by kernel_rfl
section
variable {H:Type} {enc:TypeId × Value→H} {W:World} {base:Nat} {v:Value} {d:DataW H} {p:List MemPlace}
theorem yO {g:Nat} {xs:List PV} (h:oR tab (g+1) 3 xs):∃ n,xs=[.i .i64 n]:=by
 simp only [oR,tab3] at h
 obtain ⟨n,h,_⟩:=h
 exact ⟨n,h⟩
theorem zEs {g:Nat} {xs:List PV} (h:oR tab (g+1) 39 xs):∃ n,xs=[.f n]∧n<18446744073709551616:=by
 simp only [oR,tab39] at h
 obtain ⟨n,h,h2⟩:=h
 exact ⟨n,h,h2⟩
theorem zF8 {g:Nat} {xs:List PV} (h:oR tab (g+1+1) 40 xs):∃ l,xs=[.sl 1 (bT l)]∧l.length≤9223372036854775807:=by
 simp only [oR,tab40,tab5] at h
 obtain ⟨es,h,h2,h3⟩:=h
 obtain ⟨l,rfl,hl⟩:=TU h2
 exact ⟨l,h,by omega⟩
theorem zKT {g:Nat} {xs:List PV} (h:oR tab (g+1+1+1) 96 xs):∃ k m t x l,xs=[.i .i64 k,.i .i64 m,.i .i64 t,.f x,.sl 1 (bT l)]∧x<18446744073709551616∧l.length≤9223372036854775807:=by
 obtain ⟨parts,rfl,hp⟩:=pO (by rw [tab96]) h
 obtain ⟨a,_,rfl,ha,hp⟩:=fP hp
 obtain ⟨b,_,rfl,hb,hp⟩:=fP hp
 obtain ⟨c,_,rfl,hc,hp⟩:=fP hp
 obtain ⟨x,_,rfl,hx,hp⟩:=fP hp
 obtain ⟨y,_,rfl,hy,hp⟩:=fP hp
 obtain rfl:=QV hp
 obtain ⟨k,rfl⟩:=yO ha
 obtain ⟨m,rfl⟩:=yO hb
 obtain ⟨t,rfl⟩:=yO hc
 obtain ⟨q,rfl,hq⟩:=zEs hx
 obtain ⟨l,rfl,hl⟩:=zF8 hy
 exact ⟨k,m,t,q,l,rfl,hq,hl⟩
end
theorem PY {α:Type} {f:α→List PV} {B:α→Prop}:∀ {es:List (List PV)},(∀ x∈es,∃ r,x=f r∧B r)→∃ l:List α,es=l.map f∧∀ r∈l,B r
 | [],_=>⟨[],rfl,fun r h=>by simp at h⟩
 | e::es,h=>by
  obtain ⟨r,rfl,hr⟩:=h e List.mem_cons_self
  obtain ⟨l,rfl,hl⟩:=PY fun x hx=>h x (List.mem_cons_of_mem _ hx)
  exact ⟨r::l,rfl,fun q hq=>by rcases List.mem_cons.1 hq with rfl|hq;exact hr;exact hl q hq⟩
def zLB (r:RI):Prop:=r.n.d.length≤9223372036854775807∧r.n.x<18446744073709551616
def zLF (r:RU):Prop:=r.n.d.length≤9223372036854775807∧r.n.x<18446744073709551616
theorem zMh {g:Nat} {xs:List PV} (h:oR tab (g+1+1+1+1) 98 xs):∃ r:RI,xs=r.cs∧zLB r:=by
 obtain ⟨parts,rfl,hp⟩:=pO (by rw [tab98]) h
 obtain ⟨a,_,rfl,ha,hp⟩:=fP hp
 obtain ⟨b,_,rfl,hb,hp⟩:=fP hp
 obtain rfl:=QV hp
 obtain ⟨p,rfl⟩:=yO ha
 obtain ⟨k,m,t,x,l,rfl,hx,hl⟩:=zKT hb
 exact ⟨⟨p,⟨k,m,t,x,l⟩⟩,rfl,hl,hx⟩
theorem zMo {g:Nat} {xs:List PV} (h:oR tab (g+1+1+1+1) 119 xs):∃ r:RU,xs=r.cs∧zLF r:=by
 obtain ⟨parts,rfl,hp⟩:=pO (by rw [tab119]) h
 obtain ⟨a,_,rfl,ha,hp⟩:=fP hp
 obtain ⟨a2,_,rfl,ha2,hp⟩:=fP hp
 obtain ⟨a3,_,rfl,ha3,hp⟩:=fP hp
 obtain ⟨b,_,rfl,hb,hp⟩:=fP hp
 obtain rfl:=QV hp
 obtain ⟨p,rfl⟩:=yO ha
 obtain ⟨p2,rfl⟩:=yO ha2
 obtain ⟨p3,rfl⟩:=yO ha3
 obtain ⟨k,m,t,x,l,rfl,hx,hl⟩:=zKT hb
 exact ⟨⟨p,p2,p3,⟨k,m,t,x,l⟩⟩,rfl,hl,hx⟩
theorem zFe {g:Nat} {xs:List PV} (h:oR tab (g+1+1+1+1+1) 22 xs):∃ l:List RI,xs=[.sl 6 (Go.Dm.encI l)]∧l.length≤9223372036854775807∧∀ r∈l,zLB r:=by
 unfold oR at h
 rw [tab22] at h
 simp only [tab98] at h
 obtain ⟨es,h,h2,h3⟩:=h
 obtain ⟨l,rfl,hl⟩:=PY (f:=RI.cs) (B:=zLB) fun x hx=>zMh (h2 x hx)
 exact ⟨l,h,by simp at h3;omega,hl⟩
theorem zEN {g:Nat} {xs:List PV} (h:oR tab (g+1+1+1+1+1) 23 xs):∃ l:List RU,xs=[.sl 8 (Go.Dm.encU l)]∧l.length≤9223372036854775807∧∀ r∈l,zLF r:=by
 unfold oR at h
 rw [tab23] at h
 simp only [tab119] at h
 obtain ⟨es,h,h2,h3⟩:=h
 obtain ⟨l,rfl,hl⟩:=PY (f:=RU.cs) (B:=zLF) fun x hx=>zMo (h2 x hx)
 exact ⟨l,h,by simp at h3;omega,hl⟩
section
variable {H:Type} {enc:TypeId × Value→H} {W:World} {base:Nat} {v:Value} {d:DataW H} {p:List MemPlace}
theorem zBx (hv:Value.okWide Tryz.prog W .any base 22 v) (h:DataW.Trod enc Tryz.prog W 0 (fun _=>true) true 22 v d p):
  ∃ l:List RI,(l.length≤9223372036854775807∧∀ r∈l,zLB r)∧bB (eB W) (.c (.p (.sl 6 (Go.Dm.encI l)))) v:=by
 obtain ⟨xs,hx,hr⟩:=VL aB 5 (by kernel_rfl) hv h
 obtain ⟨l,rfl,hl⟩:=zFe hx
 exact ⟨l,hl,hr⟩
theorem KE (hv:Value.okWide Tryz.prog W .any base 23 v) (h:DataW.Trod enc Tryz.prog W 0 (fun _=>true) true 23 v d p):
  ∃ l:List RU,(l.length≤9223372036854775807∧∀ r∈l,zLF r)∧bB (eB W) (.c (.p (.sl 8 (Go.Dm.encU l)))) v:=by
 obtain ⟨xs,hx,hr⟩:=VL aB 5 (by kernel_rfl) hv h
 obtain ⟨l,rfl,hl⟩:=zEN hx
 exact ⟨l,hl,hr⟩
end
end
end Go.Proofs.YtbpblnmhlhpebaaGreatDoor
