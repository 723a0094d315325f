/-
 RoomPlays: for every input the law returns true, and each argument reads behind the call as it read before. No condition.
-/
import Derived.Test.YtfcindonokhbeaaGreatDoorCards
import Derived.Test.YtfcindonokhbeaaGreatDoorTie
import Derived.Test.YtfcindonokhbeaaGreatDoorP50
set_option linter.all false
namespace Go.Proofs.YtfcindonokhbeaaGreatDoor
open Go Go.Dm Go.RowKit Go.ChangeShapes Go.WideShapes
set_option maxRecDepth 100000 in
theorem BT(os:Os)(a:os.Started)(H:Type)(enc:TypeId × Value->H):
  ReturnsInHanded {} Tryz.checked os 3 .any (λw args=>(Rows.roomPlaysSpec.pre enc Tryz.prog Tryz.f3 Rows.roomPlaysRow.domain false w args/\laidMetH Tryz.prog Rows.roomPlaysRow.laid w)/\sizedMet enc Tryz.prog Tryz.f3 (OpenSpec.ofChange Rows.roomPlaysSpec) false w args)
   (Rows.roomPlaysSpec.post enc Tryz.prog Tryz.f3 false true false false):=by
 refine VZ (C:=Tryz.checked) (X:=λw _=>laidMetH Tryz.prog Rows.roomPlaysRow.laid w) own a qg Tryz.func3
  (WK (enc:=enc) (C:=Tryz.checked) Rows.roomPlaysRow.laid #[.slice none 0 0] 8 qg qg qg qg qg qg qg qg) ?_
 intro W d args p r g c q i f k;have l:(DataW.weightsEach Tryz.prog (Tryz.f3.params.toList++Rows.roomPlaysSpec.plain.varTypes Tryz.prog) (p++r)).all (·<=reachBytes)=true:=f
 have b:∀(j:Nat) t v,Tryz.f3.params[j]?=some t->args[j]?=some v->Value.okWide Tryz.prog W .any d t v:=c;have m:=q;obtain⟨pa,pv,n,s,_,_,_⟩:=q;have h:DataW.TrodAll enc Tryz.prog W 0 (λ_=>true) true Tryz.f3.params.toList args.toList p pa:=n;obtain⟨rfl,_⟩:=trodVars_none s;rw[Tryz.params3] at h b l;obtain⟨o,D,d0,E,F,G,I,rfl,_,u,h⟩:=trodAll_cons h;obtain⟨rfl,rfl,_⟩:=trodAll_nil h;obtain rfl:args = #[o]:=by cases args;simp_all
 obtain⟨J,⟨x,y⟩,z⟩:=zKw (b 0 22 o rfl rfl) u;refine(zHX Tryz.func3 rfl qg (RH x y) i (zNg k qg (by simp[Rows.roomPlaysRow]) (by simp[Rows.roomPlaysRow])) (args:=#[o]) ⟨z,trivial⟩).mono λe K ⟨A,B⟩=>?_;exact⟨_,A,zMh zPP rfl m (XY qg) rfl Tryz.underlying4 rfl B⟩
theorem BA:Tryz.pinned.checked.prog.funcNamed Rows.roomPlaysRow.func=some 3:=qg
theorem JO:((Rows.roomPlaysRow.lifted==Tryz.pinned.checked.prog.liftsFinal) && (Tryz.pinned.checked.prog.make==some Rows.roomPlaysRow.make) && (Rows.roomPlaysRow.plainKeys==Tryz.pinned.checked.prog.plainKeys))=true:=qg
theorem YK:(Rows.roomPlaysRow.inPlace==Tryz.pinned.checked.prog.inPlace 3)=true:=qg
theorem YL:(Rows.roomPlaysRow.unfollowed==Tryz.pinned.checked.prog.unfollowed 3)=true:=qg
theorem YM:(Rows.roomPlaysRow.recurses==Tryz.pinned.checked.prog.recurses 3)=true:=qg
theorem YN:(Rows.roomPlaysRow.named==Tryz.pinned.checked.prog.varsNamed 3)=true:=qg
theorem YO:(Tryz.pinned.checked.prog.stops == [])=true:=qg
theorem YP:(Tryz.pinned.checked.prog.stopKnobs == [])=true:=qg
theorem YQ:Tryz.pinned.checked.prog.stopsHeard=true:=qg
theorem YR:Tryz.pinned.checked.prog.mayEnter=true:=qg
theorem YS:(laidOutB Tryz.pinned.checked.prog && mapsRowed Tryz.pinned.checked.prog)=true:=qg
theorem GV:joinedFacts Tryz.pinned.checked.prog 3 Tryz.f3 Rows.roomPlaysSpec Rows.roomPlaysRow=true:=by
 have h:=JO;rw[bn,bn] at h;obtain⟨⟨a,b⟩,c⟩:=h;have g:=YS;rw[bn] at g;obtain⟨d,e⟩:=g;unfold joinedFacts;rw[a,b,c,d,e,YK,YL,YM,YN,YO,YP,YQ,YR];show (_:Bool)=true;kernel_rfl
theorem JN:Tryz.pinned.checked.prog.mainIs=some (true, "42b625a5b502cf103ee23695fa44d2c7bb37df1d14636ccb476f9af7d38eec49".toList):=qg
theorem zTA{P:Program}(h:(P.funcs.toList.all λf=>!f.goes)=true)(c:OpenClaim):false=c.goesBy P:=by
 have a:∀f,P.goes f=false:=λf=>by
  unfold Program.goes;have d:P.funcs.any Func.goes=false:=by
   rw[<- Array.any_toList,mw];intro x e;have:=fb.1 h x e;simpa using this
  rw[d,gz,dn,mw];intro g _;cases b:P.funcs[g]? with
  | none=>simp
  | some x =>
   have:=fb.1 h x (by rw[<- jl] at b;exact dr b);simpa using this
 unfold OpenClaim.goesBy Program.goesAt Program.goesFrom;have i:∀o:Option FuncId,o.any P.goes=false:=λo=>by cases o<;>simp[a]
 rw[i,dw];split
 .rfl
 .symm;rw[mw];intro x _;simp[a]
theorem zTB:(Tryz.pinned.checked.prog.funcs.toList.all λf=>!f.goes)=true:=qg
theorem JM:false=Rows.roomPlaysRow.goesBy Tryz.pinned.checked.prog:=zTA zTB _
theorem GW:Rows.RoomPlaysSaid :=
 OpenClaim.holds_of_wide 3 Tryz.f3 rfl rfl rfl rfl rfl rfl rfl ⟨rfl,rfl,rfl,rfl,rfl⟩ rfl rfl rfl rfl rfl BA Tryz.func3 GV
  (pg qg) (by unfold Func.isWrapper;first|(rw[aw qi];kernel_rfl)|(rw[au qi];exact⟨rfl,rfl⟩))
  (λc a H b _=>BT c a H b)
theorem roomPlays_card:Rows.RoomPlaysCardSaid :=
 Claim7.holds_tied_plain_at .later [] [.data,.data,.data,.pinned] true (true, "42b625a5b502cf103ee23695fa44d2c7bb37df1d14636ccb476f9af7d38eec49") false
  GW (λ_ h=>by cases h) qg (λ_ h=>by cases h) roomPlays_row_tie rfl ⟨rfl,rfl⟩ JN rfl
  (fun f d e b=>by
   obtain rfl:f=3:=fx ((show Tryz.prog.funcNamed "pentimento/pentimentolaw21.RoomPlays" = some 3 from BA).symm.trans e) |>.symm
   obtain rfl:d=Tryz.f3:=(fx (Tryz.func3.symm.trans b)).symm;refine⟨qg,λj t c=>?_⟩
   have a:(Tryz.f3.params.toList.all λt=>!Tryz.prog.wantsStandIn t)=true:=qg
   have g:t∈Tryz.f3.params.toList:=by
    rw[<- jl] at c;exact dr c
   have:=fb.1 a t g;have i:Tryz.prog.wantsStandIn t=false:=by simpa using this
   exact i)
  JM
end Go.Proofs.YtfcindonokhbeaaGreatDoor
