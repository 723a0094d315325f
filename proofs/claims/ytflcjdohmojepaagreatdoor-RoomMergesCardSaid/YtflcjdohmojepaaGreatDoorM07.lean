/- Part 8 of the proof of roomMerges_card, set without needless blanks. No condition. -/
import Derived.Test.YtflcjdohmojepaaGreatDoorM04
import Derived.Test.YtflcjdohmojepaaGreatDoorM06
set_option linter.all false
set_option maxRecDepth 100000
set_option maxHeartbeats 16000000
section
namespace Go.Proofs.YtflcjdohmojepaaGreatDoor
open Go Go.ChangeShapes Go.Dm Go.Proofs.Tryz Go.RowKit Go.WideShapes
section
theorem own:ownKnob Tryz.prog.godebug=none:=by kernel_rfl
theorem laidOut:laidOutB prog=true:=by kernel_rfl
section
variable {H:Type}{enc:TypeId × Value->H}{W:World}{base:Nat}{v:Value}{d:DataW H}{p:List MemPlace}
end
section
variable {H:Type}{enc:TypeId × Value->H}{W:World}{base:Nat}{v:Value}{d:DataW H}{p:List MemPlace}
end
section
variable {H:Type}{enc:TypeId × Value->H}{W:World}{base:Nat}{v:Value}{d:DataW H}{p:List MemPlace}
end
section
variable {H:Type}{enc:TypeId × Value->H}{W:World}{base:Nat}{v:Value}{d:DataW H}{p:List MemPlace}
theorem CO{g:Nat}{xs:List PV}(h:rR tab (g+1) 3 xs):∃n,xs=[.i .i64 n]:=by
 simp only[rR,tab3] at h;obtain⟨n,h,_⟩:=h;exact⟨n,h⟩
theorem zKf{g:Nat}{xs:List PV}(h:rR tab (g+1) 59 xs):∃n,xs=[.f n]/\n<18446744073709551616:=by
 simp only[rR,tab59] at h;obtain⟨n,h,h2⟩:=h;exact⟨n,h,h2⟩
theorem zKe{g:Nat}{xs:List PV}(h:rR tab (g+1+1) 60 xs):∃l,xs=[.sl 1 (bU l)]/\l.length<=9223372036854775807:=by
 simp only[rR,tab60,tab5] at h;obtain⟨es,h,h2,h3⟩:=h;obtain⟨l,rfl,hl⟩:=ZW h2;exact⟨l,h,by omega⟩
section
variable {H:Type}{enc:TypeId × Value->H}{W:World}{base:Nat}{v:Value}{d:DataW H}{p:List MemPlace}
theorem zPo{g:Nat}{xs:List PV}(h:rR tab (g+1+1+1) 73 xs):∃k m t x l,xs=[.i .i64 k,.i .i64 m,.i .i64 t,.f x,.sl 1 (bU l)]/\x<18446744073709551616/\l.length<=9223372036854775807:=by
 obtain⟨parts,rfl,hp⟩:=tG (by rw[tab73]) h;obtain⟨a,_,rfl,ha,hp⟩:=hD hp;obtain⟨b,_,rfl,hb,hp⟩:=hD hp;obtain⟨c,_,rfl,hc,hp⟩:=hD hp;obtain⟨x,_,rfl,hx,hp⟩:=hD hp;obtain⟨y,_,rfl,hy,hp⟩:=hD hp;obtain rfl:=YH hp;obtain⟨k,rfl⟩:=CO ha;obtain⟨m,rfl⟩:=CO hb;obtain⟨t,rfl⟩:=CO hc;obtain⟨q,rfl,hq⟩:=zKf hx;obtain⟨l,rfl,hl⟩:=zKe hy;exact⟨k,m,t,q,l,rfl,hq,hl⟩
end
section
variable {H:Type}{enc:TypeId × Value->H}{W:World}{base:Nat}{v:Value}{d:DataW H}{p:List MemPlace}
end
end
theorem XQ{α:Type}{f:α->List PV}{B:α->Prop}:∀{es:List (List PV)},(∀x∈es,∃r,x=f r/\B r)->∃l:List α,es=l.map f/\∀r∈l,B r
 | [],_=>⟨[],rfl,λr h=>by simp at h⟩
 | e::es,h=>by
  obtain⟨r,rfl,hr⟩:=h e List.mem_cons_self;obtain⟨l,rfl,hl⟩:=XQ λx hx=>h x (List.mem_cons_of_mem _ hx);exact⟨r::l,rfl,λq hq=>by rcases List.mem_cons.1 hq with rfl|hq;exact hr;exact hl q hq⟩
def zP0(r:RI):Prop:=r.n.d.length<=9223372036854775807/\r.n.x<18446744073709551616
def zP1(r:RU):Prop:=r.n.d.length<=9223372036854775807/\r.n.x<18446744073709551616
theorem zQO{g:Nat}{xs:List PV}(h:rR tab (g+1+1+1+1) 75 xs):∃r:RI,xs=r.cs/\zP0 r:=by
 obtain⟨parts,rfl,hp⟩:=tG (by rw[tab75]) h;obtain⟨a,_,rfl,ha,hp⟩:=hD hp;obtain⟨b,_,rfl,hb,hp⟩:=hD hp;obtain rfl:=YH hp;obtain⟨p,rfl⟩:=CO ha;obtain⟨k,m,t,x,l,rfl,hx,hl⟩:=zPo hb;exact⟨⟨p,⟨k,m,t,x,l⟩⟩,rfl,hl,hx⟩
theorem zQP{g:Nat}{xs:List PV}(h:rR tab (g+1+1+1+1) 82 xs):∃r:RU,xs=r.cs/\zP1 r:=by
 obtain⟨parts,rfl,hp⟩:=tG (by rw[tab82]) h;obtain⟨a,_,rfl,ha,hp⟩:=hD hp;obtain⟨a2,_,rfl,ha2,hp⟩:=hD hp;obtain⟨a3,_,rfl,ha3,hp⟩:=hD hp;obtain⟨b,_,rfl,hb,hp⟩:=hD hp;obtain rfl:=YH hp;obtain⟨p,rfl⟩:=CO ha;obtain⟨p2,rfl⟩:=CO ha2;obtain⟨p3,rfl⟩:=CO ha3;obtain⟨k,m,t,x,l,rfl,hx,hl⟩:=zPo hb;exact⟨⟨p,p2,p3,⟨k,m,t,x,l⟩⟩,rfl,hl,hx⟩
theorem zKg{g:Nat}{xs:List PV}(h:rR tab (g+1+1+1+1+1) 22 xs):∃l:List RI,xs=[.sl 6 (Go.Dm.encI l)]/\l.length<=9223372036854775807/\∀r∈l,zP0 r:=by
 unfold rR at h;rw[tab22] at h;simp only[tab75] at h;obtain⟨es,h,h2,h3⟩:=h;obtain⟨l,rfl,hl⟩:=XQ (f:=RI.cs) (B:=zP0) λx hx=>zQO (h2 x hx);exact⟨l,h,by simp at h3;omega,hl⟩
theorem zKh{g:Nat}{xs:List PV}(h:rR tab (g+1+1+1+1+1) 23 xs):∃l:List RU,xs=[.sl 8 (Go.Dm.encU l)]/\l.length<=9223372036854775807/\∀r∈l,zP1 r:=by
 unfold rR at h;rw[tab23] at h;simp only[tab82] at h;obtain⟨es,h,h2,h3⟩:=h;obtain⟨l,rfl,hl⟩:=XQ (f:=RU.cs) (B:=zP1) λx hx=>zQP (h2 x hx);exact⟨l,h,by simp at h3;omega,hl⟩
section
variable {H:Type}{enc:TypeId × Value->H}{W:World}{base:Nat}{v:Value}{d:DataW H}{p:List MemPlace}
theorem zDn(hv:Value.okWide prog W .any base 22 v)(h:DataW.Trod enc prog W 0 (λ_=>true) true 22 v d p):
  ∃l:List RI,(l.length<=9223372036854775807/\∀r∈l,zP0 r)/\bD (fA W) (.c (.p (.sl 6 (Go.Dm.encI l)))) v:=by
 obtain⟨xs,hx,hr⟩:=ZU aF 5 (by kernel_rfl) hv h;obtain⟨l,rfl,hl⟩:=zKg hx;exact⟨l,hl,hr⟩
end
section
variable {H:Type}{enc:TypeId × Value->H}{W:World}{base:Nat}{v:Value}{d:DataW H}{p:List MemPlace}
theorem NM(hv:Value.okWide prog W .any base 23 v)(h:DataW.Trod enc prog W 0 (λ_=>true) true 23 v d p):
  ∃l:List RU,(l.length<=9223372036854775807/\∀r∈l,zP1 r)/\bD (fA W) (.c (.p (.sl 8 (Go.Dm.encU l)))) v:=by
 obtain⟨xs,hx,hr⟩:=ZU aF 5 (by kernel_rfl) hv h;obtain⟨l,rfl,hl⟩:=zKh hx;exact⟨l,hl,hr⟩
end
section
variable {H:Type}{enc:TypeId × Value->H}{W:World}{base:Nat}{v:Value}{d:DataW H}{p:List MemPlace}
end
end
end Go.Proofs.YtflcjdohmojepaaGreatDoor
end
