/-
 RoomForks: for every input the law returns true, and each argument reads behind the call as it read before. No condition.
-/
import Derived.Test.YtbpblnmhlhpebaaGreatDoorRows
import Derived.Test.YtbpblnmhlhpebaaGreatDoorCards
import Derived.Test.YtbpblnmhlhpebaaGreatDoorTie
import Derived.Test.YtbpblnmhlhpebaaGreatDoorC08
import Derived.Test.YtbpblnmhlhpebaaGreatDoorC48
set_option linter.unusedSimpArgs false
set_option linter.unusedVariables false
namespace Go.Proofs.YtbpblnmhlhpebaaGreatDoor
open Go Go.Dm Go.RowKit Go.ChangeShapes Go.WideShapes
set_option maxRecDepth 100000 in
theorem uV (os:Os) (started:os.Started) (H:Type) (enc:TypeId × Value→H):
  ReturnsInHanded {} Tryz.checked os 3 .any (fun w args=>(Rows.roomForksSpec.pre enc Tryz.prog Tryz.f3 Rows.roomForksRow.domain false w args∧laidMetH Tryz.prog Rows.roomForksRow.laid w)∧sizedMet enc Tryz.prog Tryz.f3 (OpenSpec.ofChange Rows.roomForksSpec) false w args)
   (Rows.roomForksSpec.post enc Tryz.prog Tryz.f3 false true false false):=by
 refine LO (C:=Tryz.checked) (X:=fun w _=>laidMetH Tryz.prog Rows.roomForksRow.laid w) own started (by kernel_rfl) Tryz.func3
  (JV (enc:=enc) (C:=Tryz.checked) Rows.roomForksRow.laid #[.slice none 0 0,.slice none 0 0,.slice none 0 0] 8 (by kernel_rfl) (by kernel_rfl) (by kernel_rfl) (by kernel_rfl) (by kernel_rfl) (by kernel_rfl) (by kernel_rfl) (by kernel_rfl)) ?_
 intro W base args ds gs before hval0 hW hsh hsz0 hx0
 have hsz:(DataW.weightsEach Tryz.prog (Tryz.f3.params.toList++Rows.roomForksSpec.plain.varTypes Tryz.prog) (ds++gs)).all (·≤reachBytes)=true:=hsz0
 have hval:∀ (j:Nat) t v,Tryz.f3.params[j]? = some t→args[j]? = some v→Value.okWide Tryz.prog W .any base t v:=hval0
 have hW':=hW
 obtain ⟨pa,pv,hA0,hV,_,_,_⟩:=hW
 have hA:DataW.TrodAll enc Tryz.prog W 0 (fun _=>true) true Tryz.f3.params.toList args.toList ds pa:=hA0
 obtain ⟨rfl,_⟩:=trodVars_none hV
 rw [Tryz.params3] at hA hval hsz
 obtain ⟨v0,r0,d0,e0,p0,q0,a0,rfl,_,h0,hA⟩:=trodAll_cons hA
 obtain ⟨v1,r1,d1,e1,p1,q1,rfl,rfl,_,h1,hA⟩:=trodAll_cons hA
 obtain ⟨v2,r2,d2,e2,p2,q2,rfl,rfl,_,h2,hA⟩:=trodAll_cons hA
 obtain ⟨rfl,rfl,_⟩:=trodAll_nil hA
 obtain rfl:args = #[v0,v1,v2]:=by cases args;simp_all
 obtain ⟨l0,⟨w0,k0⟩,R0⟩:=zBx (hval 0 22 v0 rfl rfl) h0
 obtain ⟨l1,⟨w1,k1⟩,R1⟩:=KE (hval 1 23 v1 rfl rfl) h1
 obtain ⟨l2,⟨w2,k2⟩,R2⟩:=KE (hval 2 23 v2 rfl rfl) h2
 refine (zDk Tryz.func3 rfl (by kernel_rfl) (GR w0 (fun x hx=>(k0 x hx).1) (fun x hx=>(k0 x hx).2) w1 (fun x hx=>(k1 x hx).1) (fun x hx=>(k1 x hx).2) w2 (fun x hx=>(k2 x hx).1) (fun x hx=>(k2 x hx).2)) hsh (fun g j v h=>by simp [said] at h) (args:=#[v0,v1,v2]) ⟨R0,R1,R2,trivial⟩).mono fun e W' ⟨he,hb⟩=>?_
 exact ⟨_,he,zGe laidOut rfl hW' (JN (by kernel_rfl)) rfl Tryz.underlying4 rfl hb⟩
theorem uP:Tryz.pinned.checked.prog.funcNamed Rows.roomForksRow.func=some 3:=by kernel_rfl
theorem AN:((Rows.roomForksRow.lifted == Tryz.pinned.checked.prog.liftsFinal) && (Tryz.pinned.checked.prog.make == some Rows.roomForksRow.make) && (Rows.roomForksRow.plainKeys == Tryz.pinned.checked.prog.plainKeys))=true:=by kernel_rfl
theorem KI:(Rows.roomForksRow.inPlace == Tryz.pinned.checked.prog.inPlace 3)=true:=by kernel_rfl
theorem KF:(Rows.roomForksRow.unfollowed == Tryz.pinned.checked.prog.unfollowed 3)=true:=by kernel_rfl
theorem NL:(Rows.roomForksRow.recurses == Tryz.pinned.checked.prog.recurses 3)=true:=by kernel_rfl
theorem KR:(Rows.roomForksRow.named == Tryz.pinned.checked.prog.varsNamed 3)=true:=by kernel_rfl
theorem LY:(Tryz.pinned.checked.prog.stops == [])=true:=by kernel_rfl
theorem MT:(Tryz.pinned.checked.prog.stopKnobs == [])=true:=by kernel_rfl
theorem KT:Tryz.pinned.checked.prog.stopsHeard=true:=by kernel_rfl
theorem KH:Tryz.pinned.checked.prog.mayEnter=true:=by kernel_rfl
theorem JF:(laidOutB Tryz.pinned.checked.prog && mapsRowed Tryz.pinned.checked.prog)=true:=by kernel_rfl
theorem zF:joinedFacts Tryz.pinned.checked.prog 3 Tryz.f3 Rows.roomForksSpec Rows.roomForksRow=true:=by
 have h:=AN
 rw [Bool.and_eq_true,Bool.and_eq_true] at h
 obtain ⟨⟨h1,h2⟩,h3⟩:=h
 have g:=JF
 rw [Bool.and_eq_true] at g
 obtain ⟨g1,g2⟩:=g
 unfold joinedFacts
 rw [h1,h2,h3,g1,g2,KI,KF,NL,KR,LY,MT,KT,KH]
 show (_:Bool)=true
 kernel_rfl
theorem AX:Tryz.pinned.checked.prog.mainIs=some (true, "c7b9580e9c39843784411e9f523db78e9b0dfaf482024113ab20eba2d9fe6782".toList):=by kernel_rfl
theorem AH:false=Rows.roomForksRow.goesBy Tryz.pinned.checked.prog:=by kernel_rfl
theorem zW:Rows.RoomForksSaid :=
 OpenClaim.holds_of_wide 3 Tryz.f3 rfl rfl rfl rfl rfl rfl rfl ⟨rfl,rfl,rfl,rfl,rfl⟩ rfl rfl rfl rfl rfl uP Tryz.func3 zF
  (of_decide_eq_true (by kernel_rfl)) (by unfold Func.isWrapper;first|(rw [if_pos (by decide +kernel)];kernel_rfl)|(rw [if_neg (by decide +kernel)];exact ⟨rfl,rfl⟩))
  (fun os started H enc _=>uV os started H enc)
theorem roomForks_card:Rows.RoomForksCardSaid :=
 Claim7.holds_tied_plain_at .later [] [.data,.pinned] true (true, "c7b9580e9c39843784411e9f523db78e9b0dfaf482024113ab20eba2d9fe6782") false
  zW (fun _ h=>by cases h) (by kernel_rfl) (fun _ h=>by cases h) roomForks_row_tie rfl ⟨rfl,rfl⟩ AX rfl
  (fun f fn hf hfn=>by
   obtain rfl:f=3:=Option.some.inj ((show Tryz.prog.funcNamed "pentimento/pentimentolaw21.RoomForks" = some 3 from uP).symm.trans hf) |>.symm
   obtain rfl:fn=Tryz.f3:=(Option.some.inj (Tryz.func3.symm.trans hfn)).symm
   refine ⟨by kernel_rfl,fun j t ht=>?_⟩
   have hall:(Tryz.f3.params.toList.all fun t=>!Tryz.prog.wantsStandIn t)=true:=by kernel_rfl
   have hm:t∈Tryz.f3.params.toList:=by
    rw [← Array.getElem?_toList] at ht
    exact List.mem_of_getElem? ht
   have:=List.all_eq_true.1 hall t hm
   have h2:Tryz.prog.wantsStandIn t=false:=by simpa using this
   exact h2)
  AH
end Go.Proofs.YtbpblnmhlhpebaaGreatDoor
