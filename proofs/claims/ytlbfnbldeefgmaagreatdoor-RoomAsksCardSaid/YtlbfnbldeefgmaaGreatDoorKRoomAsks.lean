/-
 RoomAsks: for every input the law returns true, and each argument reads behind the call as it read before. No condition.
-/
import Derived.Test.YtlbfnbldeefgmaaGreatDoorCards
import Derived.Test.YtlbfnbldeefgmaaGreatDoorTie
import Derived.Test.YtlbfnbldeefgmaaGreatDoorA49
set_option linter.all false
namespace Go.Proofs.YtlbfnbldeefgmaaGreatDoor
open Go Go.Dm Go.RowKit Go.ChangeShapes Go.WideShapes
set_option maxRecDepth 100000 in
theorem zN (os:Os) (started:os.Started) (H:Type) (enc:TypeId × Value→H):
  ReturnsInHanded {} Tryz.checked os 5 .any (fun w args=>(Rows.roomAsksSpec.pre enc Tryz.prog Tryz.f5 Rows.roomAsksRow.domain false w args∧laidMetH Tryz.prog Rows.roomAsksRow.laid w)∧sizedMet enc Tryz.prog Tryz.f5 (OpenSpec.ofChange Rows.roomAsksSpec) false w args)
   (Rows.roomAsksSpec.post enc Tryz.prog Tryz.f5 false true false false):=by
 refine KW (C:=Tryz.checked) (X:=fun w _=>laidMetH Tryz.prog Rows.roomAsksRow.laid w) own started (by kernel_rfl) Tryz.func5
  (LB (enc:=enc) (C:=Tryz.checked) Rows.roomAsksRow.laid #[.slice none 0 0,.slice none 0 0] 8 (by kernel_rfl) (by kernel_rfl) (by kernel_rfl) (by kernel_rfl) (by kernel_rfl) (by kernel_rfl) (by kernel_rfl) (by kernel_rfl)) ?_
 intro W base args ds gs before hval0 hW hsh hsz0 hx0;have hsz:(DataW.weightsEach Tryz.prog (Tryz.f5.params.toList++Rows.roomAsksSpec.plain.varTypes Tryz.prog) (ds++gs)).all (·≤reachBytes)=true:=hsz0
 have hval:∀ (j:Nat) t v,Tryz.f5.params[j]? = some t→args[j]? = some v→Value.okWide Tryz.prog W .any base t v:=hval0;have hW':=hW;obtain ⟨pa,pv,hA0,hV,_,_,_⟩:=hW;have hA:DataW.TrodAll enc Tryz.prog W 0 (fun _=>true) true Tryz.f5.params.toList args.toList ds pa:=hA0;obtain ⟨rfl,_⟩:=trodVars_none hV;rw [Tryz.params5] at hA hval hsz;obtain ⟨v0,r0,d0,e0,p0,q0,a0,rfl,_,h0,hA⟩:=trodAll_cons hA;obtain ⟨v1,r1,d1,e1,p1,q1,rfl,rfl,_,h1,hA⟩:=trodAll_cons hA;obtain ⟨rfl,rfl,_⟩:=trodAll_nil hA;obtain rfl:args = #[v0,v1]:=by cases args;simp_all
 obtain ⟨l0,⟨w0,k0⟩,R0⟩:=zA5 (hval 0 87 v0 rfl rfl) h0;obtain ⟨l1,⟨w1,k1⟩,R1⟩:=zA4 (hval 1 22 v1 rfl rfl) h1;refine (zDk Tryz.func5 rfl (by kernel_rfl) (MV w0 (fun x hx=>(k0 x hx).1) (fun x hx=>(k0 x hx).2) w1 (fun x hx=>(k1 x hx).1) (fun x hx=>(k1 x hx).2.1) (fun x hx=>(k1 x hx).2.2)) hsh (zHq hx0 (by kernel_rfl) (by simp [Rows.roomAsksRow])) (args:=#[v0,v1]) ⟨R0,R1,trivial⟩).mono fun e W' ⟨he,hb⟩=>?_;exact ⟨_,he,zGR laidOut rfl hW' (MI (by kernel_rfl)) rfl Tryz.underlying4 rfl hb⟩
theorem zM:Tryz.pinned.checked.prog.funcNamed Rows.roomAsksRow.func=some 5:=by kernel_rfl
theorem GY:((Rows.roomAsksRow.lifted == Tryz.pinned.checked.prog.liftsFinal) && (Tryz.pinned.checked.prog.make == some Rows.roomAsksRow.make) && (Rows.roomAsksRow.plainKeys == Tryz.pinned.checked.prog.plainKeys))=true:=by kernel_rfl
theorem SH:(Rows.roomAsksRow.inPlace == Tryz.pinned.checked.prog.inPlace 5)=true:=by kernel_rfl
theorem SI:(Rows.roomAsksRow.unfollowed == Tryz.pinned.checked.prog.unfollowed 5)=true:=by kernel_rfl
theorem SJ:(Rows.roomAsksRow.recurses == Tryz.pinned.checked.prog.recurses 5)=true:=by kernel_rfl
theorem SK:(Rows.roomAsksRow.named == Tryz.pinned.checked.prog.varsNamed 5)=true:=by kernel_rfl
theorem SL:(Tryz.pinned.checked.prog.stops == [])=true:=by kernel_rfl
theorem SM:(Tryz.pinned.checked.prog.stopKnobs == [])=true:=by kernel_rfl
theorem SN:Tryz.pinned.checked.prog.stopsHeard=true:=by kernel_rfl
theorem SO:Tryz.pinned.checked.prog.mayEnter=true:=by kernel_rfl
theorem SP:(laidOutB Tryz.pinned.checked.prog && mapsRowed Tryz.pinned.checked.prog)=true:=by kernel_rfl
theorem AY:joinedFacts Tryz.pinned.checked.prog 5 Tryz.f5 Rows.roomAsksSpec Rows.roomAsksRow=true:=by
 have h:=GY;rw [Bool.and_eq_true,Bool.and_eq_true] at h;obtain ⟨⟨h1,h2⟩,h3⟩:=h;have g:=SP;rw [Bool.and_eq_true] at g;obtain ⟨g1,g2⟩:=g;unfold joinedFacts;rw [h1,h2,h3,g1,g2,SH,SI,SJ,SK,SL,SM,SN,SO];show (_:Bool)=true;kernel_rfl
theorem GX:Tryz.pinned.checked.prog.mainIs=some (true, "8c0297879aecc529d10a2351a65e74dcc30a4fec545c776259228776ca879da0".toList):=by kernel_rfl
theorem GW:false=Rows.roomAsksRow.goesBy Tryz.pinned.checked.prog:=by kernel_rfl
theorem AZ:Rows.RoomAsksSaid :=
 OpenClaim.holds_of_wide 5 Tryz.f5 rfl rfl rfl rfl rfl rfl rfl ⟨rfl,rfl,rfl,rfl,rfl⟩ rfl rfl rfl rfl rfl zM Tryz.func5 AY
  (of_decide_eq_true (by kernel_rfl)) (by unfold Func.isWrapper;first|(rw [if_pos (by decide +kernel)];kernel_rfl)|(rw [if_neg (by decide +kernel)];exact ⟨rfl,rfl⟩))
  (fun os started H enc _=>zN os started H enc)
theorem roomAsks_card:Rows.RoomAsksCardSaid :=
 Claim7.holds_tied_plain_at .later [] [.data,.data,.pinned] true (true, "8c0297879aecc529d10a2351a65e74dcc30a4fec545c776259228776ca879da0") false
  AZ (fun _ h=>by cases h) (by kernel_rfl) (fun _ h=>by cases h) roomAsks_row_tie rfl ⟨rfl,rfl⟩ GX rfl
  (fun f fn hf hfn=>by
   obtain rfl:f=5:=Option.some.inj ((show Tryz.prog.funcNamed "pentimento/pentimentolaw21.RoomAsks" = some 5 from zM).symm.trans hf) |>.symm
   obtain rfl:fn=Tryz.f5:=(Option.some.inj (Tryz.func5.symm.trans hfn)).symm;refine ⟨by kernel_rfl,fun j t ht=>?_⟩
   have hall:(Tryz.f5.params.toList.all fun t=>!Tryz.prog.wantsStandIn t)=true:=by kernel_rfl
   have hm:t∈Tryz.f5.params.toList:=by
    rw [← Array.getElem?_toList] at ht;exact List.mem_of_getElem? ht
   have:=List.all_eq_true.1 hall t hm;have h2:Tryz.prog.wantsStandIn t=false:=by simpa using this
   exact h2)
  GW
end Go.Proofs.YtlbfnbldeefgmaaGreatDoor
