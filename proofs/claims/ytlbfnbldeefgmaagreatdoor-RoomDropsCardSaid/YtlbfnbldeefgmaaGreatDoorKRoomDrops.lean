/-
 RoomDrops: for every input the law returns true, and each argument reads behind the call as it read before. No condition.
-/
import Derived.Test.YtlbfnbldeefgmaaGreatDoorCards
import Derived.Test.YtlbfnbldeefgmaaGreatDoorTie
import Derived.Test.YtlbfnbldeefgmaaGreatDoorS48
set_option linter.all false
namespace Go.Proofs.YtlbfnbldeefgmaaGreatDoor
open Go Go.Dm Go.RowKit Go.ChangeShapes Go.WideShapes
set_option maxRecDepth 100000 in
theorem xB(os:Os)(started:os.Started)(H:Type)(enc:TypeId × Value->H):
  ReturnsInHanded {} Tryz.checked os 6 .any (λw args=>(Rows.roomDropsSpec.pre enc Tryz.prog Tryz.f6 Rows.roomDropsRow.domain false w args/\laidMetH Tryz.prog Rows.roomDropsRow.laid w)/\sizedMet enc Tryz.prog Tryz.f6 (OpenSpec.ofChange Rows.roomDropsSpec) false w args)
   (Rows.roomDropsSpec.post enc Tryz.prog Tryz.f6 false true false false):=by
 refine MI (C:=Tryz.checked) (X:=λw _=>laidMetH Tryz.prog Rows.roomDropsRow.laid w) own started (by kernel_rfl) Tryz.func6
  (MP (enc:=enc) (C:=Tryz.checked) Rows.roomDropsRow.laid #[.slice none 0 0,.slice none 0 0] 8 (by kernel_rfl) (by kernel_rfl) (by kernel_rfl) (by kernel_rfl) (by kernel_rfl) (by kernel_rfl) (by kernel_rfl) (by kernel_rfl)) ?_
 intro W base args ds gs before hval0 hW hsh hsz0 hx0;have hsz:(DataW.weightsEach Tryz.prog (Tryz.f6.params.toList++Rows.roomDropsSpec.plain.varTypes Tryz.prog) (ds++gs)).all (·<=reachBytes)=true:=hsz0
 have hval:∀(j:Nat) t v,Tryz.f6.params[j]?=some t->args[j]?=some v->Value.okWide Tryz.prog W .any base t v:=hval0;have hW':=hW;obtain⟨pa,pv,hA0,hV,_,_,_⟩:=hW;have hA:DataW.TrodAll enc Tryz.prog W 0 (λ_=>true) true Tryz.f6.params.toList args.toList ds pa:=hA0;obtain⟨rfl,_⟩:=trodVars_none hV;rw[Tryz.params6] at hA hval hsz;obtain⟨v0,r0,d0,e0,p0,q0,a0,rfl,_,h0,hA⟩:=trodAll_cons hA;obtain⟨v1,r1,d1,e1,p1,q1,rfl,rfl,_,h1,hA⟩:=trodAll_cons hA;obtain⟨rfl,rfl,_⟩:=trodAll_nil hA;obtain rfl:args = #[v0,v1]:=by cases args;simp_all
 obtain⟨l0,⟨w0,k0⟩,R0⟩:=zGc (hval 0 47 v0 rfl rfl) h0;obtain⟨l1,w1,R1⟩:=zGb (hval 1 81 v1 rfl rfl) h1;refine(zDT Tryz.func6 rfl (by kernel_rfl) (JK w0 k0 w1) hsh (zIA hx0 (by kernel_rfl) (by simp[Rows.roomDropsRow]) (by simp[Rows.roomDropsRow])) (args:=#[v0,v1]) ⟨R0,R1,trivial⟩).mono λe W' ⟨he,hb⟩=>?_;exact⟨_,he,zHV laidOut rfl hW' (NZ (by kernel_rfl)) rfl Tryz.underlying4 rfl hb⟩
theorem wM:Tryz.pinned.checked.prog.funcNamed Rows.roomDropsRow.func=some 6:=by kernel_rfl
theorem CY:((Rows.roomDropsRow.lifted==Tryz.pinned.checked.prog.liftsFinal) && (Tryz.pinned.checked.prog.make==some Rows.roomDropsRow.make) && (Rows.roomDropsRow.plainKeys==Tryz.pinned.checked.prog.plainKeys))=true:=by kernel_rfl
theorem PF:(Rows.roomDropsRow.inPlace==Tryz.pinned.checked.prog.inPlace 6)=true:=by kernel_rfl
theorem PG:(Rows.roomDropsRow.unfollowed==Tryz.pinned.checked.prog.unfollowed 6)=true:=by kernel_rfl
theorem PH:(Rows.roomDropsRow.recurses==Tryz.pinned.checked.prog.recurses 6)=true:=by kernel_rfl
theorem PI:(Rows.roomDropsRow.named==Tryz.pinned.checked.prog.varsNamed 6)=true:=by kernel_rfl
theorem PJ:(Tryz.pinned.checked.prog.stops == [])=true:=by kernel_rfl
theorem PK:(Tryz.pinned.checked.prog.stopKnobs == [])=true:=by kernel_rfl
theorem PL:Tryz.pinned.checked.prog.stopsHeard=true:=by kernel_rfl
theorem PM:Tryz.pinned.checked.prog.mayEnter=true:=by kernel_rfl
theorem PN:(laidOutB Tryz.pinned.checked.prog && mapsRowed Tryz.pinned.checked.prog)=true:=by kernel_rfl
theorem BH:joinedFacts Tryz.pinned.checked.prog 6 Tryz.f6 Rows.roomDropsSpec Rows.roomDropsRow=true:=by
 have h:=CY;rw[Bool.and_eq_true,Bool.and_eq_true] at h;obtain⟨⟨h1,h2⟩,h3⟩:=h;have g:=PN;rw[Bool.and_eq_true] at g;obtain⟨g1,g2⟩:=g;unfold joinedFacts;rw[h1,h2,h3,g1,g2,PF,PG,PH,PI,PJ,PK,PL,PM];show (_:Bool)=true;kernel_rfl
theorem CX:Tryz.pinned.checked.prog.mainIs=some (true, "8c0297879aecc529d10a2351a65e74dcc30a4fec545c776259228776ca879da0".toList):=by kernel_rfl
theorem goesN{P:Program}(h:(P.funcs.toList.all λf=>!f.goes)=true)(c:OpenClaim):false=c.goesBy P:=by
 have h1:∀f,P.goes f=false:=λf=>by
  unfold Program.goes;have h2:P.funcs.any Func.goes=false:=by
   rw[<- Array.any_toList,List.any_eq_false];intro x hx;have:=List.all_eq_true.1 h x hx;simpa using this
  rw[h2,Bool.and_false,Bool.or_false,List.any_eq_false];intro g _;cases hg:P.funcs[g]? with
  | none=>simp
  | some x=>have:=List.all_eq_true.1 h x (by rw[<- Array.getElem?_toList] at hg;exact List.mem_of_getElem? hg);simpa using this
 unfold OpenClaim.goesBy Program.goesAt Program.goesFrom;have h3:∀o:Option FuncId,o.any P.goes=false:=λo=>by cases o<;>simp[h1]
 rw[h3,Bool.false_or];split
 .rfl
 .symm;rw[List.any_eq_false];intro x _;simp[h1]
theorem goesP:(Tryz.pinned.checked.prog.funcs.toList.all λf=>!f.goes)=true:=by kernel_rfl
theorem CW:false=Rows.roomDropsRow.goesBy Tryz.pinned.checked.prog:=goesN goesP _
theorem BI:Rows.RoomDropsSaid :=
 OpenClaim.holds_of_wide 6 Tryz.f6 rfl rfl rfl rfl rfl rfl rfl ⟨rfl,rfl,rfl,rfl,rfl⟩ rfl rfl rfl rfl rfl wM Tryz.func6 BH
  (of_decide_eq_true (by kernel_rfl)) (by unfold Func.isWrapper;first|(rw[if_pos (by decide +kernel)];kernel_rfl)|(rw[if_neg (by decide +kernel)];exact⟨rfl,rfl⟩))
  (λos started H enc _=>xB os started H enc)
theorem roomDrops_card:Rows.RoomDropsCardSaid :=
 Claim7.holds_tied_plain_at .later [] [.data,.data,.data,.pinned] true (true, "8c0297879aecc529d10a2351a65e74dcc30a4fec545c776259228776ca879da0") false
  BI (λ_ h=>by cases h) (by kernel_rfl) (λ_ h=>by cases h) roomDrops_row_tie rfl ⟨rfl,rfl⟩ CX rfl
  (fun f fn hf hfn=>by
   obtain rfl:f=6:=Option.some.inj ((show Tryz.prog.funcNamed "pentimento/pentimentolaw21.RoomDrops" = some 6 from wM).symm.trans hf) |>.symm
   obtain rfl:fn=Tryz.f6:=(Option.some.inj (Tryz.func6.symm.trans hfn)).symm;refine⟨by kernel_rfl,λj t ht=>?_⟩
   have hall:(Tryz.f6.params.toList.all λt=>!Tryz.prog.wantsStandIn t)=true:=by kernel_rfl
   have hm:t∈Tryz.f6.params.toList:=by
    rw[<- Array.getElem?_toList] at ht;exact List.mem_of_getElem? ht
   have:=List.all_eq_true.1 hall t hm;have h2:Tryz.prog.wantsStandIn t=false:=by simpa using this
   exact h2)
  CW
end Go.Proofs.YtlbfnbldeefgmaaGreatDoor
