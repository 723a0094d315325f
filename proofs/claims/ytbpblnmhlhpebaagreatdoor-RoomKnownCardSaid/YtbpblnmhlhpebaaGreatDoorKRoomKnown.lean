/-
 RoomKnown: for every input the law returns true, and each argument reads behind the call as it read before. No condition.
-/
import Derived.Test.YtbpblnmhlhpebaaGreatDoorRows
import Derived.Test.YtbpblnmhlhpebaaGreatDoorCards
import Derived.Test.YtbpblnmhlhpebaaGreatDoorTie
import Derived.Test.YtbpblnmhlhpebaaGreatDoorB07
import Derived.Test.YtbpblnmhlhpebaaGreatDoorB47
set_option linter.all false
namespace Go.Proofs.YtbpblnmhlhpebaaGreatDoor
open Go Go.Dm Go.RowKit Go.ChangeShapes Go.WideShapes
set_option maxRecDepth 100000 in
theorem uZ (os:Os) (started:os.Started) (H:Type) (enc:TypeId × Value→H):
  ReturnsInHanded {} Tryz.checked os 4 .any (fun w args=>(Rows.roomKnownSpec.pre enc Tryz.prog Tryz.f4 Rows.roomKnownRow.domain false w args∧laidMetH Tryz.prog Rows.roomKnownRow.laid w)∧sizedMet enc Tryz.prog Tryz.f4 (OpenSpec.ofChange Rows.roomKnownSpec) false w args)
   (Rows.roomKnownSpec.post enc Tryz.prog Tryz.f4 false true false false):=by
 refine JD (C:=Tryz.checked) (X:=fun w _=>laidMetH Tryz.prog Rows.roomKnownRow.laid w) own started (by kernel_rfl) Tryz.func4
  (MO (enc:=enc) (C:=Tryz.checked) Rows.roomKnownRow.laid #[] 8 (by kernel_rfl) (by kernel_rfl) (by kernel_rfl) (by kernel_rfl) (by kernel_rfl) (by kernel_rfl) (by kernel_rfl) (by kernel_rfl)) ?_
 intro W base args ds gs before hval0 hW hsh hsz0 hx0
 have hsz:(DataW.weightsEach Tryz.prog (Tryz.f4.params.toList++Rows.roomKnownSpec.plain.varTypes Tryz.prog) (ds++gs)).all (·≤reachBytes)=true:=hsz0
 have hval:∀ (j:Nat) t v,Tryz.f4.params[j]? = some t→args[j]? = some v→Value.okWide Tryz.prog W .any base t v:=hval0
 have hW':=hW
 obtain ⟨pa,pv,hA0,hV,_,_,_⟩:=hW
 have hA:DataW.TrodAll enc Tryz.prog W 0 (fun _=>true) true Tryz.f4.params.toList args.toList ds pa:=hA0
 obtain ⟨rfl,_⟩:=trodVars_none hV
 rw [Tryz.params4] at hA hval hsz
 obtain ⟨hnil,rfl,_⟩:=trodAll_nil hA
 obtain rfl:args = #[]:=by cases args;simp_all
 refine (zC0 Tryz.func4 rfl (by kernel_rfl) (EC) hsh (fun g j v h=>by simp [said] at h) (args:=#[]) True.intro).mono fun e W' ⟨he,hb⟩=>?_
 exact ⟨_,he,zEQ laidOut rfl hW' (MN (by kernel_rfl)) rfl Tryz.underlying4 rfl hb⟩
theorem uO:Tryz.pinned.checked.prog.funcNamed Rows.roomKnownRow.func=some 4:=by kernel_rfl
theorem AA:((Rows.roomKnownRow.lifted == Tryz.pinned.checked.prog.liftsFinal) && (Tryz.pinned.checked.prog.make == some Rows.roomKnownRow.make) && (Rows.roomKnownRow.plainKeys == Tryz.pinned.checked.prog.plainKeys))=true:=by kernel_rfl
theorem LQ:(Rows.roomKnownRow.inPlace == Tryz.pinned.checked.prog.inPlace 4)=true:=by kernel_rfl
theorem JX:(Rows.roomKnownRow.unfollowed == Tryz.pinned.checked.prog.unfollowed 4)=true:=by kernel_rfl
theorem JT:(Rows.roomKnownRow.recurses == Tryz.pinned.checked.prog.recurses 4)=true:=by kernel_rfl
theorem HB:(Rows.roomKnownRow.named == Tryz.pinned.checked.prog.varsNamed 4)=true:=by kernel_rfl
theorem MS:(Tryz.pinned.checked.prog.stops == [])=true:=by kernel_rfl
theorem HL:(Tryz.pinned.checked.prog.stopKnobs == [])=true:=by kernel_rfl
theorem KB:Tryz.pinned.checked.prog.stopsHeard=true:=by kernel_rfl
theorem JE:Tryz.pinned.checked.prog.mayEnter=true:=by kernel_rfl
theorem JZ:(laidOutB Tryz.pinned.checked.prog && mapsRowed Tryz.pinned.checked.prog)=true:=by kernel_rfl
theorem zQ:joinedFacts Tryz.pinned.checked.prog 4 Tryz.f4 Rows.roomKnownSpec Rows.roomKnownRow=true:=by
 have h:=AA
 rw [Bool.and_eq_true,Bool.and_eq_true] at h
 obtain ⟨⟨h1,h2⟩,h3⟩:=h
 have g:=JZ
 rw [Bool.and_eq_true] at g
 obtain ⟨g1,g2⟩:=g
 unfold joinedFacts
 rw [h1,h2,h3,g1,g2,LQ,JX,JT,HB,MS,HL,KB,JE]
 show (_:Bool)=true
 kernel_rfl
theorem AB:Tryz.pinned.checked.prog.mainIs=some (true, "c7b9580e9c39843784411e9f523db78e9b0dfaf482024113ab20eba2d9fe6782".toList):=by kernel_rfl
theorem AL:false=Rows.roomKnownRow.goesBy Tryz.pinned.checked.prog:=by kernel_rfl
theorem yC:Rows.RoomKnownSaid :=
 OpenClaim.holds_of_wide 4 Tryz.f4 rfl rfl rfl rfl rfl rfl rfl ⟨rfl,rfl,rfl,rfl,rfl⟩ rfl rfl rfl rfl rfl uO Tryz.func4 zQ
  (of_decide_eq_true (by kernel_rfl)) (by unfold Func.isWrapper;first|(rw [if_pos (by decide +kernel)];kernel_rfl)|(rw [if_neg (by decide +kernel)];exact ⟨rfl,rfl⟩))
  (fun os started H enc _=>uZ os started H enc)
theorem roomKnown_card:Rows.RoomKnownCardSaid :=
 Claim7.holds_tied_plain_at .later [] [.data,.pinned] true (true, "c7b9580e9c39843784411e9f523db78e9b0dfaf482024113ab20eba2d9fe6782") false
  yC (fun _ h=>by cases h) (by kernel_rfl) (fun _ h=>by cases h) roomKnown_row_tie rfl ⟨rfl,rfl⟩ AB rfl
  (fun f fn hf hfn=>by
   obtain rfl:f=4:=Option.some.inj ((show Tryz.prog.funcNamed "pentimento/pentimentolaw21.RoomKnown" = some 4 from uO).symm.trans hf) |>.symm
   obtain rfl:fn=Tryz.f4:=(Option.some.inj (Tryz.func4.symm.trans hfn)).symm
   refine ⟨by kernel_rfl,fun j t ht=>?_⟩
   have hall:(Tryz.f4.params.toList.all fun t=>!Tryz.prog.wantsStandIn t)=true:=by kernel_rfl
   have hm:t∈Tryz.f4.params.toList:=by
    rw [← Array.getElem?_toList] at ht
    exact List.mem_of_getElem? ht
   have:=List.all_eq_true.1 hall t hm
   have h2:Tryz.prog.wantsStandIn t=false:=by simpa using this
   exact h2)
  AL
end Go.Proofs.YtbpblnmhlhpebaaGreatDoor
