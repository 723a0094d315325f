/-
 RoomDeep: for every input the law returns true, and each argument reads behind the call as it read before. No condition.
-/
import Derived.Test.YtlbfnbldeefgmaaGreatDoorCards
import Derived.Test.YtlbfnbldeefgmaaGreatDoorTie
import Derived.Test.YtlbfnbldeefgmaaGreatDoorC49
set_option linter.all false
namespace Go.Proofs.YtlbfnbldeefgmaaGreatDoor
open Go Go.Dm Go.RowKit Go.ChangeShapes Go.WideShapes
set_option maxRecDepth 100000 in
theorem wT (os:Os) (started:os.Started) (H:Type) (enc:TypeId × Value→H):
  ReturnsInHanded {} Tryz.checked os 3 .any (fun w args=>(Rows.roomDeepSpec.pre enc Tryz.prog Tryz.f3 Rows.roomDeepRow.domain false w args∧laidMetH Tryz.prog Rows.roomDeepRow.laid w)∧sizedMet enc Tryz.prog Tryz.f3 (OpenSpec.ofChange Rows.roomDeepSpec) false w args)
   (Rows.roomDeepSpec.post enc Tryz.prog Tryz.f3 false true false false):=by
 refine GF (C:=Tryz.checked) (X:=fun w _=>laidMetH Tryz.prog Rows.roomDeepRow.laid w) own started (by kernel_rfl) Tryz.func3
  (GK (enc:=enc) (C:=Tryz.checked) Rows.roomDeepRow.laid #[.slice none 0 0] 8 (by kernel_rfl) (by kernel_rfl) (by kernel_rfl) (by kernel_rfl) (by kernel_rfl) (by kernel_rfl) (by kernel_rfl) (by kernel_rfl)) ?_
 intro W base args ds gs before hval0 hW hsh hsz0 hx0;have hsz:(DataW.weightsEach Tryz.prog (Tryz.f3.params.toList++Rows.roomDeepSpec.plain.varTypes Tryz.prog) (ds++gs)).all (·≤reachBytes)=true:=hsz0
 have hval:∀ (j:Nat) t v,Tryz.f3.params[j]? = some t→args[j]? = some v→Value.okWide Tryz.prog W .any base t v:=hval0;have hW':=hW;obtain ⟨pa,pv,hA0,hV,_,_,_⟩:=hW;have hA:DataW.TrodAll enc Tryz.prog W 0 (fun _=>true) true Tryz.f3.params.toList args.toList ds pa:=hA0;obtain ⟨rfl,_⟩:=trodVars_none hV;rw [Tryz.params3] at hA hval hsz;obtain ⟨v0,r0,d0,e0,p0,q0,a0,rfl,_,h0,hA⟩:=trodAll_cons hA;obtain ⟨rfl,rfl,_⟩:=trodAll_nil hA;obtain rfl:args = #[v0]:=by cases args;simp_all
 obtain ⟨l0,⟨w0,k0⟩,R0⟩:=WJ (hval 0 22 v0 rfl rfl) h0;refine (zAQ Tryz.func3 rfl (by kernel_rfl) (HQ w0 (fun x hx=>(k0 x hx).1) (fun x hx=>(k0 x hx).2.1) (fun x hx=>(k0 x hx).2.2)) hsh (zEG hx0 (by kernel_rfl) (by simp [Rows.roomDeepRow])) (args:=#[v0]) ⟨R0,trivial⟩).mono fun e W' ⟨he,hb⟩=>?_;exact ⟨_,he,zEb laidOut rfl hW' (HL (by kernel_rfl)) rfl Tryz.underlying4 rfl hb⟩
theorem wS:Tryz.pinned.checked.prog.funcNamed Rows.roomDeepRow.func=some 3:=by kernel_rfl
theorem DC:((Rows.roomDeepRow.lifted == Tryz.pinned.checked.prog.liftsFinal) && (Tryz.pinned.checked.prog.make == some Rows.roomDeepRow.make) && (Rows.roomDeepRow.plainKeys == Tryz.pinned.checked.prog.plainKeys))=true:=by kernel_rfl
theorem ML:(Rows.roomDeepRow.inPlace == Tryz.pinned.checked.prog.inPlace 3)=true:=by kernel_rfl
theorem MM:(Rows.roomDeepRow.unfollowed == Tryz.pinned.checked.prog.unfollowed 3)=true:=by kernel_rfl
theorem MN:(Rows.roomDeepRow.recurses == Tryz.pinned.checked.prog.recurses 3)=true:=by kernel_rfl
theorem MO:(Rows.roomDeepRow.named == Tryz.pinned.checked.prog.varsNamed 3)=true:=by kernel_rfl
theorem MP:(Tryz.pinned.checked.prog.stops == [])=true:=by kernel_rfl
theorem MQ:(Tryz.pinned.checked.prog.stopKnobs == [])=true:=by kernel_rfl
theorem MR:Tryz.pinned.checked.prog.stopsHeard=true:=by kernel_rfl
theorem MS:Tryz.pinned.checked.prog.mayEnter=true:=by kernel_rfl
theorem MT:(laidOutB Tryz.pinned.checked.prog && mapsRowed Tryz.pinned.checked.prog)=true:=by kernel_rfl
theorem xV:joinedFacts Tryz.pinned.checked.prog 3 Tryz.f3 Rows.roomDeepSpec Rows.roomDeepRow=true:=by
 have h:=DC;rw [Bool.and_eq_true,Bool.and_eq_true] at h;obtain ⟨⟨h1,h2⟩,h3⟩:=h;have g:=MT;rw [Bool.and_eq_true] at g;obtain ⟨g1,g2⟩:=g;unfold joinedFacts;rw [h1,h2,h3,g1,g2,ML,MM,MN,MO,MP,MQ,MR,MS];show (_:Bool)=true;kernel_rfl
theorem DA:Tryz.pinned.checked.prog.mainIs=some (true, "8c0297879aecc529d10a2351a65e74dcc30a4fec545c776259228776ca879da0".toList):=by kernel_rfl
theorem CZ:false=Rows.roomDeepRow.goesBy Tryz.pinned.checked.prog:=by kernel_rfl
theorem xW:Rows.RoomDeepSaid :=
 OpenClaim.holds_of_wide 3 Tryz.f3 rfl rfl rfl rfl rfl rfl rfl ⟨rfl,rfl,rfl,rfl,rfl⟩ rfl rfl rfl rfl rfl wS Tryz.func3 xV
  (of_decide_eq_true (by kernel_rfl)) (by unfold Func.isWrapper;first|(rw [if_pos (by decide +kernel)];kernel_rfl)|(rw [if_neg (by decide +kernel)];exact ⟨rfl,rfl⟩))
  (fun os started H enc _=>wT os started H enc)
theorem roomDeep_card:Rows.RoomDeepCardSaid :=
 Claim7.holds_tied_plain_at .later [] [.data,.data,.pinned] true (true, "8c0297879aecc529d10a2351a65e74dcc30a4fec545c776259228776ca879da0") false
  xW (fun _ h=>by cases h) (by kernel_rfl) (fun _ h=>by cases h) roomDeep_row_tie rfl ⟨rfl,rfl⟩ DA rfl
  (fun f fn hf hfn=>by
   obtain rfl:f=3:=Option.some.inj ((show Tryz.prog.funcNamed "pentimento/pentimentolaw21.RoomDeep" = some 3 from wS).symm.trans hf) |>.symm
   obtain rfl:fn=Tryz.f3:=(Option.some.inj (Tryz.func3.symm.trans hfn)).symm;refine ⟨by kernel_rfl,fun j t ht=>?_⟩
   have hall:(Tryz.f3.params.toList.all fun t=>!Tryz.prog.wantsStandIn t)=true:=by kernel_rfl
   have hm:t∈Tryz.f3.params.toList:=by
    rw [← Array.getElem?_toList] at ht;exact List.mem_of_getElem? ht
   have:=List.all_eq_true.1 hall t hm;have h2:Tryz.prog.wantsStandIn t=false:=by simpa using this
   exact h2)
  CZ
end Go.Proofs.YtlbfnbldeefgmaaGreatDoor
