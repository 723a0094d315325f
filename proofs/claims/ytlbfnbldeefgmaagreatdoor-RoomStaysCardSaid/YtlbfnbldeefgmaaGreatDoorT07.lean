/- Part 8 of the proof of roomStays_card, set without needless blanks. No condition. -/
import Derived.Test.YtlbfnbldeefgmaaGreatDoorT04
import Derived.Test.YtlbfnbldeefgmaaGreatDoorT06
import Derived.ChangeBears2
import Derived.MakeChecks
set_option linter.all false
set_option maxRecDepth 100000
set_option maxHeartbeats 16000000
section
namespace Go.Proofs.YtlbfnbldeefgmaaGreatDoor
open Go Go.ChangeShapes Go.Dm Go.RowKit Go.WideShapes
section
theorem own:ownKnob Tryz.prog.godebug=none:=by kernel_rfl
theorem laidOut:laidOutB Tryz.prog=true:=by kernel_rfl
section
variable {H:Type}{enc:TypeId × Value->H}{W:World}{base:Nat}{v:Value}{d:DataW H}{p:List MemPlace}
theorem mS{g:Nat}{xs:List PV}(h:qU tab (g+1) 3 xs):∃n,xs=[.i .i64 n]:=by
 simp only[qU,tab3] at h;obtain⟨n,h,_⟩:=h;exact⟨n,h⟩
theorem zJf{g:Nat}{xs:List PV}(h:qU tab (g+1) 27 xs):∃n,xs=[.f n]/\n<18446744073709551616:=by
 simp only[qU,tab27] at h;obtain⟨n,h,h2⟩:=h;exact⟨n,h,h2⟩
theorem ZB{g:Nat}{xs:List PV}(h:qU tab (g+1+1) 28 xs):∃l,xs=[.sl 1 (bJ l)]/\l.length<=9223372036854775807:=by
 simp only[qU,tab28,tab5] at h;obtain⟨es,h,h2,h3⟩:=h;obtain⟨l,rfl,hl⟩:=XN h2;exact⟨l,h,by omega⟩
end
theorem zEN{α:Type}{f:α->List PV}{B:α->Prop}:∀{es:List (List PV)},(∀x∈es,∃r,x=f r/\B r)->∃l:List α,es=l.map f/\∀r∈l,B r
 | [],_=>⟨[],rfl,λr h=>by simp at h⟩
 | e::es,h=>by
  obtain⟨r,rfl,hr⟩:=h e List.mem_cons_self;obtain⟨l,rfl,hl⟩:=zEN λx hx=>h x (List.mem_cons_of_mem _ hx);exact⟨r::l,rfl,λq hq=>by rcases List.mem_cons.1 hq with rfl|hq;exact hr;exact hl q hq⟩
section
variable {H:Type}{enc:TypeId × Value->H}{W:World}{base:Nat}{v:Value}{d:DataW H}{p:List MemPlace}
end
end
end Go.Proofs.YtlbfnbldeefgmaaGreatDoor
end
section
namespace Go.Dm
open Go
section
variable {P:Program}{w:World}{n:String}{d:DataW Unit}{l:List (String × DataW Unit)}{g t e k:Nat}
theorem rT: ∀{l:List (String × DataW Unit)} {ps:List MemPlace},DataW.LaidVars P w l ps->(n,d)∈l ->
  ∃g t cs fuel p,P.globalNamed n=some g/\(P.globals[g]?).map (·.type)=some t/\w.var? P n=some cs/\DataW.trod (λ_=>()) P w 0 (λ_=>true) false fuel t cs.toList=some (d,p)
 | [],_,_,h=>by cases h
 | (m,e)::r,ps,h,hm=>by
  obtain⟨g,t,cs,fuel,p,q,h1,h2,h3,h4,h5,_⟩:=h;rcases List.mem_cons.1 hm with hm|hm
  .cases hm;exact⟨g,t,cs,fuel,p,h1,h2,h3,h4⟩
  .exact rT h5 hm
theorem zEB{vs:List Int}(hw:laidMet P l w)(hm:(n,d)∈l)(hd:d=.agg (vs.map λv=>.lit (.int .i64 v)))
 (hg:P.globalNamed n=some g)(ht:(P.globals[g]?).map (·.type)=some t)(hu:P.underlying t=some (.array k e))(he:P.underlying e=some (.int .i64))(hc:P.cellsOf e=1)(j:Nat)(v:Int)(hj:vs[j]?=some v):
  w.cell? ⟨g,j,none⟩=some (.int .i64 v):=by
 obtain⟨ps,hl,_⟩:=hw;obtain⟨g',t',cs,fuel,p,h1,h2,h3,h4⟩:=rT hl hm;obtain rfl:g'=g:=Option.some.inj (h1.symm.trans hg);obtain rfl:t'=t:=Option.some.inj (h2.symm.trans ht);rw[var?_cell hg h3];cases fuel with
 | zero=>simp[DataW.trod] at h4
 | succ fuel =>
  simp only[DataW.trod,hu] at h4;split at h4
  .simp only[Option.map_eq_some_iff] at h4;obtain⟨xs,h5,h6⟩:=h4;simp only[Prod.mk.injEq] at h6;obtain⟨h6,_⟩:=h6;subst hd;simp only[DataW.agg.injEq] at h6;obtain⟨h7,h8⟩:=mapM_at h5;have hx:(xs.map (·.1))[j]?=some (.lit (.int .i64 v)):=by rw[h6,List.getElem?_map,hj];rfl
   rw[List.getElem?_map,Option.map_eq_some_iff] at hx;obtain⟨x,hx1,hx2⟩:=hx;have hjl:j<xs.length:=(List.getElem?_eq_some_iff.1 hx1).1;obtain⟨y,hy1,hy2⟩:=h8 j j (by rw[List.getElem?_range (by rw[h7,List.length_range] at hjl;exact hjl)]);obtain rfl:y=x:=Option.some.inj (hy1.symm.trans hx1);rw[hc,Nat.mul_one] at hy2;cases fuel with
   | zero=>simp[DataW.trod] at hy2
   | succ fuel =>
    simp only[DataW.trod,he] at hy2;rw[<- Array.getElem?_toList];rcases hq:(cs.toList.drop j).take 1 with _|⟨c,_|⟨c2,r⟩⟩
    .rw[hq] at hy2;simp at hy2
    .rw [hq] at hy2;have hcj:cs.toList[j]?=some c:=by
      have:=congrArg (·[0]?) hq
      simpa[List.getElem?_take,List.getElem?_drop] using this
     rw[hcj];cases c<;>simp at hy2;obtain⟨⟨rfl,_⟩,rfl⟩:=hy2;simp at hx2;rw[hx2]
    .rw[hq] at hy2;simp at hy2
  .cases h4
theorem zEC{vs:List (List UInt8)}(hw:laidMet P l w)(hm:(n,d)∈l)(hd:d=.agg (vs.map λv=>.lit (.string v)))
 (hg:P.globalNamed n=some g)(ht:(P.globals[g]?).map (·.type)=some t)(hu:P.underlying t=some (.array k e))(he:P.underlying e=some .string)(hc:P.cellsOf e=1)(j:Nat)(v:List UInt8)(hj:vs[j]?=some v):
  w.cell? ⟨g,j,none⟩=some (.string ⟨v.toArray⟩):=by
 obtain⟨ps,hl,_⟩:=hw;obtain⟨g',t',cs,fuel,p,h1,h2,h3,h4⟩:=rT hl hm;obtain rfl:g'=g:=Option.some.inj (h1.symm.trans hg);obtain rfl:t'=t:=Option.some.inj (h2.symm.trans ht);rw[var?_cell hg h3];cases fuel with
 | zero=>simp[DataW.trod] at h4
 | succ fuel =>
  simp only[DataW.trod,hu] at h4;split at h4
  .simp only[Option.map_eq_some_iff] at h4;obtain⟨xs,h5,h6⟩:=h4;simp only[Prod.mk.injEq] at h6;obtain⟨h6,_⟩:=h6;subst hd;simp only[DataW.agg.injEq] at h6;obtain⟨h7,h8⟩:=mapM_at h5;have hx:(xs.map (·.1))[j]?=some (.lit (.string v)):=by rw[h6,List.getElem?_map,hj];rfl
   rw[List.getElem?_map,Option.map_eq_some_iff] at hx;obtain⟨x,hx1,hx2⟩:=hx;have hjl:j<xs.length:=(List.getElem?_eq_some_iff.1 hx1).1;obtain⟨y,hy1,hy2⟩:=h8 j j (by rw[List.getElem?_range (by rw[h7,List.length_range] at hjl;exact hjl)]);obtain rfl:y=x:=Option.some.inj (hy1.symm.trans hx1);rw[hc,Nat.mul_one] at hy2;cases fuel with
   | zero=>simp[DataW.trod] at hy2
   | succ fuel =>
    simp only[DataW.trod,he] at hy2;rw[<- Array.getElem?_toList];rcases hq:(cs.toList.drop j).take 1 with _|⟨c,_|⟨c2,r⟩⟩
    .rw[hq] at hy2;simp at hy2
    .rw [hq] at hy2;have hcj:cs.toList[j]?=some c:=by
      have:=congrArg (·[0]?) hq
      simpa[List.getElem?_take,List.getElem?_drop] using this
     rw[hcj];cases c<;>simp at hy2;obtain⟨_,rfl⟩:=hy2;simp at hx2;subst hx2;simp
    .rw[hq] at hy2;simp at hy2
  .cases h4
end
end Go.Dm
end
