/-
 RoomStays: for every input the law returns true, and each argument reads behind the call as it read before. No condition.
-/
import Derived.Test.YtlbfnbldeefgmaaGreatDoorCards
import Derived.Test.YtlbfnbldeefgmaaGreatDoorTie
import Derived.Test.YtlbfnbldeefgmaaGreatDoorT49
set_option linter.all false
namespace Go.Proofs.YtlbfnbldeefgmaaGreatDoor
open Go Go.Dm Go.RowKit Go.ChangeShapes Go.WideShapes
set_option maxRecDepth 100000 in
theorem xK(os:Os)(started:os.Started)(H:Type)(enc:TypeId × Value->H):
  ReturnsInHanded {} Tryz.checked os 7 .any (λw args=>(Rows.roomStaysSpec.pre enc Tryz.prog Tryz.f7 Rows.roomStaysRow.domain false w args/\laidMetH Tryz.prog Rows.roomStaysRow.laid w)/\sizedMet enc Tryz.prog Tryz.f7 (OpenSpec.ofChange Rows.roomStaysSpec) false w args)
   (Rows.roomStaysSpec.post enc Tryz.prog Tryz.f7 false true false false):=by
 refine NH (C:=Tryz.checked) (X:=λw _=>laidMetH Tryz.prog Rows.roomStaysRow.laid w) own started (by kernel_rfl) Tryz.func7
  (NN (enc:=enc) (C:=Tryz.checked) Rows.roomStaysRow.laid #[.slice none 0 0] 8 (by kernel_rfl) (by kernel_rfl) (by kernel_rfl) (by kernel_rfl) (by kernel_rfl) (by kernel_rfl) (by kernel_rfl) (by kernel_rfl)) ?_
 intro W base args ds gs before hval0 hW hsh hsz0 hx0;have hsz:(DataW.weightsEach Tryz.prog (Tryz.f7.params.toList++Rows.roomStaysSpec.plain.varTypes Tryz.prog) (ds++gs)).all (·<=reachBytes)=true:=hsz0
 have hval:∀(j:Nat) t v,Tryz.f7.params[j]?=some t->args[j]?=some v->Value.okWide Tryz.prog W .any base t v:=hval0;have hW':=hW;obtain⟨pa,pv,hA0,hV,_,_,_⟩:=hW;have hA:DataW.TrodAll enc Tryz.prog W 0 (λ_=>true) true Tryz.f7.params.toList args.toList ds pa:=hA0;obtain⟨rfl,_⟩:=trodVars_none hV;rw[Tryz.params7] at hA hval hsz;obtain⟨v0,r0,d0,e0,p0,q0,a0,rfl,_,h0,hA⟩:=trodAll_cons hA;obtain⟨rfl,rfl,_⟩:=trodAll_nil hA;obtain rfl:args = #[v0]:=by cases args;simp_all
 obtain⟨l0,⟨w0,k0⟩,R0⟩:=zG2 (hval 0 47 v0 rfl rfl) h0;refine(zED Tryz.func7 rfl (by kernel_rfl) (KG w0 k0) hsh (zJp hx0 (by kernel_rfl) (by simp[Rows.roomStaysRow]) (by simp[Rows.roomStaysRow])) (args:=#[v0]) ⟨R0,trivial⟩).mono λe W' ⟨he,hb⟩=>?_;exact⟨_,he,zIM laidOut rfl hW' (PX (by kernel_rfl)) rfl Tryz.underlying4 rfl hb⟩
theorem wU:Tryz.pinned.checked.prog.funcNamed Rows.roomStaysRow.func=some 7:=by kernel_rfl
theorem DO:((Rows.roomStaysRow.lifted==Tryz.pinned.checked.prog.liftsFinal) && (Tryz.pinned.checked.prog.make==some Rows.roomStaysRow.make) && (Rows.roomStaysRow.plainKeys==Tryz.pinned.checked.prog.plainKeys))=true:=by kernel_rfl
theorem QM:(Rows.roomStaysRow.inPlace==Tryz.pinned.checked.prog.inPlace 7)=true:=by kernel_rfl
theorem QN:(Rows.roomStaysRow.unfollowed==Tryz.pinned.checked.prog.unfollowed 7)=true:=by kernel_rfl
theorem QO:(Rows.roomStaysRow.recurses==Tryz.pinned.checked.prog.recurses 7)=true:=by kernel_rfl
theorem QP:(Rows.roomStaysRow.named==Tryz.pinned.checked.prog.varsNamed 7)=true:=by kernel_rfl
theorem QQ:(Tryz.pinned.checked.prog.stops == [])=true:=by kernel_rfl
theorem QR:(Tryz.pinned.checked.prog.stopKnobs == [])=true:=by kernel_rfl
theorem QS:Tryz.pinned.checked.prog.stopsHeard=true:=by kernel_rfl
theorem QT:Tryz.pinned.checked.prog.mayEnter=true:=by kernel_rfl
theorem QU:(laidOutB Tryz.pinned.checked.prog && mapsRowed Tryz.pinned.checked.prog)=true:=by kernel_rfl
theorem BT:joinedFacts Tryz.pinned.checked.prog 7 Tryz.f7 Rows.roomStaysSpec Rows.roomStaysRow=true:=by
 have h:=DO;rw[Bool.and_eq_true,Bool.and_eq_true] at h;obtain⟨⟨h1,h2⟩,h3⟩:=h;have g:=QU;rw[Bool.and_eq_true] at g;obtain⟨g1,g2⟩:=g;unfold joinedFacts;rw[h1,h2,h3,g1,g2,QM,QN,QO,QP,QQ,QR,QS,QT];show (_:Bool)=true;kernel_rfl
theorem DN:Tryz.pinned.checked.prog.mainIs=some (true, "8c0297879aecc529d10a2351a65e74dcc30a4fec545c776259228776ca879da0".toList):=by kernel_rfl
theorem goesN{P:Program}(h:(P.funcs.toList.all λf=>!f.goes)=true)(c:OpenClaim):false=c.goesBy P:=by
 have h1:∀f,P.goes f=false:=λf=>by
  unfold Program.goes;have h2:P.funcs.any Func.goes=false:=by
   rw[<- Array.any_toList,List.any_eq_false];intro x hx;have:=List.all_eq_true.1 h x hx;simpa using this
  rw[h2,Bool.and_false,Bool.or_false,List.any_eq_false];intro g _;cases hg:P.funcs[g]? with
  | none=>simp
  | some x=>have:=List.all_eq_true.1 h x (by rw[<- Array.getElem?_toList] at hg;exact List.mem_of_getElem? hg);simpa using this
 unfold OpenClaim.goesBy Program.goesAt Program.goesFrom;have h3:∀o:Option FuncId,o.any P.goes=false:=λo=>by cases o<;>simp[h1]
 rw[h3,Bool.false_or];split
 .rfl
 .symm;rw[List.any_eq_false];intro x _;simp[h1]
theorem goesP:(Tryz.pinned.checked.prog.funcs.toList.all λf=>!f.goes)=true:=by kernel_rfl
theorem DM:false=Rows.roomStaysRow.goesBy Tryz.pinned.checked.prog:=goesN goesP _
theorem BU:Rows.RoomStaysSaid :=
 OpenClaim.holds_of_wide 7 Tryz.f7 rfl rfl rfl rfl rfl rfl rfl ⟨rfl,rfl,rfl,rfl,rfl⟩ rfl rfl rfl rfl rfl wU Tryz.func7 BT
  (of_decide_eq_true (by kernel_rfl)) (by unfold Func.isWrapper;first|(rw[if_pos (by decide +kernel)];kernel_rfl)|(rw[if_neg (by decide +kernel)];exact⟨rfl,rfl⟩))
  (λos started H enc _=>xK os started H enc)
theorem roomStays_card:Rows.RoomStaysCardSaid :=
 Claim7.holds_tied_plain_at .later [] [.data,.data,.data,.pinned] true (true, "8c0297879aecc529d10a2351a65e74dcc30a4fec545c776259228776ca879da0") false
  BU (λ_ h=>by cases h) (by kernel_rfl) (λ_ h=>by cases h) roomStays_row_tie rfl ⟨rfl,rfl⟩ DN rfl
  (fun f fn hf hfn=>by
   obtain rfl:f=7:=Option.some.inj ((show Tryz.prog.funcNamed "pentimento/pentimentolaw21.RoomStays" = some 7 from wU).symm.trans hf) |>.symm
   obtain rfl:fn=Tryz.f7:=(Option.some.inj (Tryz.func7.symm.trans hfn)).symm;refine⟨by kernel_rfl,λj t ht=>?_⟩
   have hall:(Tryz.f7.params.toList.all λt=>!Tryz.prog.wantsStandIn t)=true:=by kernel_rfl
   have hm:t∈Tryz.f7.params.toList:=by
    rw[<- Array.getElem?_toList] at ht;exact List.mem_of_getElem? ht
   have:=List.all_eq_true.1 hall t hm;have h2:Tryz.prog.wantsStandIn t=false:=by simpa using this
   exact h2)
  DM
end Go.Proofs.YtlbfnbldeefgmaaGreatDoor
