/-
 RoomMerges: for every input the law returns true, and each argument reads behind the call as it read before. No condition.
-/
import Derived.Test.YtflcjdohmojepaaGreatDoorRows
import Derived.Test.YtflcjdohmojepaaGreatDoorCards
import Derived.Test.YtflcjdohmojepaaGreatDoorTie
import Derived.Test.YtflcjdohmojepaaGreatDoorM07
import Derived.Test.YtflcjdohmojepaaGreatDoorM48
set_option linter.all false
namespace Go.Proofs.YtflcjdohmojepaaGreatDoor
open Go Go.Dm Go.RowKit Go.ChangeShapes Go.WideShapes
set_option maxRecDepth 100000 in
theorem wU(os:Os)(started:os.Started)(H:Type)(enc:TypeId × Value->H):
  ReturnsInHanded {} Tryz.checked os 3 .any (λw args=>(Rows.roomMergesSpec.pre enc Tryz.prog Tryz.f3 Rows.roomMergesRow.domain false w args/\laidMetH Tryz.prog Rows.roomMergesRow.laid w)/\sizedMet enc Tryz.prog Tryz.f3 (OpenSpec.ofChange Rows.roomMergesSpec) false w args)
   (Rows.roomMergesSpec.post enc Tryz.prog Tryz.f3 false true false false):=by
 refine QP (C:=Tryz.checked) (X:=λw _=>laidMetH Tryz.prog Rows.roomMergesRow.laid w) own started (by kernel_rfl) Tryz.func3
  (QV (enc:=enc) (C:=Tryz.checked) Rows.roomMergesRow.laid #[.slice none 0 0,.slice none 0 0,.slice none 0 0] 8 (by kernel_rfl) (by kernel_rfl) (by kernel_rfl) (by kernel_rfl) (by kernel_rfl) (by kernel_rfl) (by kernel_rfl) (by kernel_rfl)) ?_
 intro W base args ds gs before hval0 hW hsh hsz0 hx0;have hsz:(DataW.weightsEach Tryz.prog (Tryz.f3.params.toList++Rows.roomMergesSpec.plain.varTypes Tryz.prog) (ds++gs)).all (·<=reachBytes)=true:=hsz0
 have hval:∀(j:Nat) t v,Tryz.f3.params[j]?=some t->args[j]?=some v->Value.okWide Tryz.prog W .any base t v:=hval0;have hW':=hW;obtain⟨pa,pv,hA0,hV,_,_,_⟩:=hW;have hA:DataW.TrodAll enc Tryz.prog W 0 (λ_=>true) true Tryz.f3.params.toList args.toList ds pa:=hA0;obtain⟨rfl,_⟩:=trodVars_none hV;rw[Tryz.params3] at hA hval hsz;obtain⟨v0,r0,d0,e0,p0,q0,a0,rfl,_,h0,hA⟩:=trodAll_cons hA;obtain⟨v1,r1,d1,e1,p1,q1,rfl,rfl,_,h1,hA⟩:=trodAll_cons hA;obtain⟨v2,r2,d2,e2,p2,q2,rfl,rfl,_,h2,hA⟩:=trodAll_cons hA;obtain⟨rfl,rfl,_⟩:=trodAll_nil hA;obtain rfl:args = #[v0,v1,v2]:=by cases args;simp_all
 obtain⟨l0,⟨w0,k0⟩,R0⟩:=zDn (hval 0 22 v0 rfl rfl) h0;obtain⟨l1,⟨w1,k1⟩,R1⟩:=NM (hval 1 23 v1 rfl rfl) h1;obtain⟨l2,⟨w2,k2⟩,R2⟩:=NM (hval 2 23 v2 rfl rfl) h2;refine(zFH Tryz.func3 rfl (by kernel_rfl) (EZ w0 (λx hx=>(k0 x hx).1) (λx hx=>(k0 x hx).2) w1 (λx hx=>(k1 x hx).1) (λx hx=>(k1 x hx).2) w2 (λx hx=>(k2 x hx).1) (λx hx=>(k2 x hx).2)) hsh (λg j v h=>by simp[said] at h) (args:=#[v0,v1,v2]) ⟨R0,R1,R2,trivial⟩).mono λe W' ⟨he,hb⟩=>?_
 exact⟨_,he,zJD laidOut rfl hW' (SN (by kernel_rfl)) rfl Tryz.underlying4 rfl hb⟩
theorem vD:Tryz.pinned.checked.prog.funcNamed Rows.roomMergesRow.func=some 3:=by kernel_rfl
theorem DF:((Rows.roomMergesRow.lifted==Tryz.pinned.checked.prog.liftsFinal) && (Tryz.pinned.checked.prog.make==some Rows.roomMergesRow.make) && (Rows.roomMergesRow.plainKeys==Tryz.pinned.checked.prog.plainKeys))=true:=by kernel_rfl
theorem ME:(Rows.roomMergesRow.inPlace==Tryz.pinned.checked.prog.inPlace 3)=true:=by kernel_rfl
theorem MF:(Rows.roomMergesRow.unfollowed==Tryz.pinned.checked.prog.unfollowed 3)=true:=by kernel_rfl
theorem MG:(Rows.roomMergesRow.recurses==Tryz.pinned.checked.prog.recurses 3)=true:=by kernel_rfl
theorem MH:(Rows.roomMergesRow.named==Tryz.pinned.checked.prog.varsNamed 3)=true:=by kernel_rfl
theorem MI:(Tryz.pinned.checked.prog.stops == [])=true:=by kernel_rfl
theorem MJ:(Tryz.pinned.checked.prog.stopKnobs == [])=true:=by kernel_rfl
theorem ML:Tryz.pinned.checked.prog.stopsHeard=true:=by kernel_rfl
theorem MM:Tryz.pinned.checked.prog.mayEnter=true:=by kernel_rfl
theorem MN:(laidOutB Tryz.pinned.checked.prog && mapsRowed Tryz.pinned.checked.prog)=true:=by kernel_rfl
theorem yQ:joinedFacts Tryz.pinned.checked.prog 3 Tryz.f3 Rows.roomMergesSpec Rows.roomMergesRow=true:=by
 have h:=DF;rw[Bool.and_eq_true,Bool.and_eq_true] at h;obtain⟨⟨h1,h2⟩,h3⟩:=h;have g:=MN;rw[Bool.and_eq_true] at g;obtain⟨g1,g2⟩:=g;unfold joinedFacts;rw[h1,h2,h3,g1,g2,ME,MF,MG,MH,MI,MJ,ML,MM];show (_:Bool)=true;kernel_rfl
theorem DE:Tryz.pinned.checked.prog.mainIs=some (true, "0215d96172cd17465eb154ba505f245097ca6ae78aa92383e8b38202b4ed06f7".toList):=by kernel_rfl
theorem zQu{P:Program}(h:(P.funcs.toList.all λf=>!f.goes)=true)(c:OpenClaim):false=c.goesBy P:=by
 have h1:∀f,P.goes f=false:=λf=>by
  unfold Program.goes;have h2:P.funcs.any Func.goes=false:=by
   rw[<- Array.any_toList,List.any_eq_false];intro x hx;have:=List.all_eq_true.1 h x hx;simpa using this
  rw[h2,Bool.and_false,Bool.or_false,List.any_eq_false];intro g _;cases hg:P.funcs[g]? with
  | none=>simp
  | some x =>
   have:=List.all_eq_true.1 h x (by rw[<- Array.getElem?_toList] at hg;exact List.mem_of_getElem? hg);simpa using this
 unfold OpenClaim.goesBy Program.goesAt Program.goesFrom;have h3:∀o:Option FuncId,o.any P.goes=false:=λo=>by cases o<;>simp[h1]
 rw[h3,Bool.false_or];split
 .rfl
 .symm;rw[List.any_eq_false];intro x _;simp[h1]
theorem zQv:(Tryz.pinned.checked.prog.funcs.toList.all λf=>!f.goes)=true:=by kernel_rfl
theorem DD:false=Rows.roomMergesRow.goesBy Tryz.pinned.checked.prog:=zQu zQv _
theorem yR:Rows.RoomMergesSaid :=
 OpenClaim.holds_of_wide 3 Tryz.f3 rfl rfl rfl rfl rfl rfl rfl ⟨rfl,rfl,rfl,rfl,rfl⟩ rfl rfl rfl rfl rfl vD Tryz.func3 yQ
  (of_decide_eq_true (by kernel_rfl)) (by unfold Func.isWrapper;first|(rw[if_pos (by decide +kernel)];kernel_rfl)|(rw[if_neg (by decide +kernel)];exact⟨rfl,rfl⟩))
  (λos started H enc _=>wU os started H enc)
theorem roomMerges_card:Rows.RoomMergesCardSaid :=
 Claim7.holds_tied_plain_at .later [] [.data,.pinned] true (true, "0215d96172cd17465eb154ba505f245097ca6ae78aa92383e8b38202b4ed06f7") false
  yR (λ_ h=>by cases h) (by kernel_rfl) (λ_ h=>by cases h) roomMerges_row_tie rfl ⟨rfl,rfl⟩ DE rfl
  (fun f fn hf hfn=>by
   obtain rfl:f=3:=Option.some.inj ((show Tryz.prog.funcNamed "pentimento/pentimentolaw21.RoomMerges" = some 3 from vD).symm.trans hf) |>.symm
   obtain rfl:fn=Tryz.f3:=(Option.some.inj (Tryz.func3.symm.trans hfn)).symm;refine⟨by kernel_rfl,λj t ht=>?_⟩
   have hall:(Tryz.f3.params.toList.all λt=>!Tryz.prog.wantsStandIn t)=true:=by kernel_rfl
   have hm:t∈Tryz.f3.params.toList:=by
    rw[<- Array.getElem?_toList] at ht;exact List.mem_of_getElem? ht
   have:=List.all_eq_true.1 hall t hm;have h2:Tryz.prog.wantsStandIn t=false:=by simpa using this
   exact h2)
  DD
end Go.Proofs.YtflcjdohmojepaaGreatDoor
