/- Part 48 of the proof of roomKnown_card. No condition. -/
import Derived.Test.YtbpblnmhlhpebaaGreatDoorB46
set_option linter.all false
set_option maxRecDepth 100000
set_option maxHeartbeats 16000000
namespace Go.Proofs.YtbpblnmhlhpebaaGreatDoor
open Go Go.Dm Go.Proofs
section
theorem EC:aA Tryz.prog 4 [] [] fun r h=>r=.c (.p (.b true))∧h=[]:=by
 obtain ⟨r1,e1,s1⟩:=sY (s:=zEl) (c:=mkS [97]) FM (by decide) zL4
 obtain ⟨r2,e2,s2⟩:=sY (s:=dP) (c:=mkS [97]) s1 (by decide) zL7
 obtain ⟨r3,e3,s3⟩:=eY s2 zMe
 obtain ⟨r4,e4,s4⟩:=eY s3 zMg
 obtain ⟨r5,e5,s5⟩:=eY s4 zL2
 obtain ⟨r6,e6,s6⟩:=eY s5 zLz
 obtain ⟨r7,e7,s7⟩:=eY s6 zLP
 obtain ⟨r8,e8,s8⟩:=JA s7 zL1
 obtain ⟨r9,e9,s9⟩:=JA s8 zLJ
 obtain ⟨r10,e10,s10⟩:=sY (s:=dP) (c:=mkS [98]) s9 (by decide) zLK
 obtain ⟨r11,e11,s11⟩:=sY (s:=sW) (c:=mkS [99]) s10 (by decide) zLD
 obtain ⟨r12,e12,s12⟩:=eY s11 zLL
 obtain ⟨r13,e13,s13⟩:=eY s12 zLY
 obtain ⟨r14,e14,s14⟩:=BR s13 zJl
 obtain ⟨r15,e15,s15⟩:=BR s14 zEE
 obtain ⟨r16,e16,s16⟩:=NP s15 zFf
 obtain ⟨r17,e17,s17⟩:=KF s16 zLn
 obtain ⟨r18,e18,s18⟩:=KF s17 zLy
 have ma:=FL (p:=[97])
 have mb:=FL (p:=[98])
 have mc:=FL (p:=[99])
 have c1:=zJw FM (by decide) e1
 have c2:=zJw s1 (by decide) e2
 have c3:=jZ s2 (by decide) e3
 have c4:=jZ s3 (by decide) e4
 have c5:=jZ s4 (by decide) e5
 have c6:=jZ s5 (by decide) e6
 have c7:=jZ s6 (by decide) e7
 have c8:=zGL s7 (by decide) e8
 have c9:=zGL s8 (by decide) e9
 have c10:=zJw s9 (by decide) e10
 have c11:=zJw s10 (by decide) e11
 have c12:=jZ s11 (by decide) e12
 have c13:=jZ s12 (by decide) e13
 have c14:=zDd s13 (by decide) e14
 have q1:=zCW s14 ((iS s14.toSimW sM).trans zIR)
 have c15:=zDd s14 (by decide) e15
 have c16:=zFS s15 e16
 have q2:=zCW s16 ((iS s16.toSimW sW).trans zIF)
 have hdf:AV r16 v1S sM=(dO [kdA] [kdA,kdB,kdC],0):=by
  unfold AV
  rw [iS s16.toSimW,iS s16.toSimW,zIX,zHq]
  rfl
 have q3:=zJO s16 hdf
 have c17:=zHb s16 e17
 have c18:=zHb s17 e18
 have q4:=zCW s18 ((iS s18.toSimW v1S).trans zI9)
 have hdl:=zJ4
 generalize dO [kdA] [kdA,kdB,kdC]=X at q3 hdl
 have hdl:=PLift.up hdl
 clear e1 e2 e3 e4 e5 e6 e7 e8 e9 e10 e11 e12 e13 e14 e15 e16 e17 e18 s1 s2 s3 s4 s5 s6 s7 s8 s9 s10 s11 s12 s13 s14 s15 s16 s17 s18 hdf
 refine ent aB aK Tryz.func4 rfl rfl fun X0 hX=>?_
 simp only [Tryz.f4,go_sem]
 repeat' (first|simp only [*,go_sem,Nat.reduceLT,Nat.reduceEqDiff,↓reduceIte,Bool.not_true]|((with_reducible refine aL [] (ML) ?_ ?_ ?_ ?_);exact rfl;exact rfl;(focus ((simp only [go_sem];done))))|((with_reducible refine aS (zBc) ?_ ?_ ?_);exact rfl;exact rfl))
 repeat' (first|simp only [*,go_sem,Nat.reduceLT,Nat.reduceEqDiff,↓reduceIte,Nat.reduceAdd,anE]|((with_reducible refine bP (ma) ?_ ?_ ?_);exact rfl;exact fun _=>rfl)|((with_reducible refine aL [0,1,2,3] (c1) ?_ ?_ ?_ ?_);exact rfl;exact rfl;(focus ((simp only [go_sem];done))))|((with_reducible refine aL [0,1,2,3] (c2) ?_ ?_ ?_ ?_);exact rfl;exact rfl;(focus ((simp only [go_sem];done)))))
 repeat' (first|simp only [*,go_sem,Nat.reduceLT,Nat.reduceEqDiff,↓reduceIte,Nat.reduceAdd,Nat.reduceSub]|((with_reducible refine aL [0,1,2,3] (c3) ?_ ?_ ?_ ?_);exact rfl;exact rfl;(focus ((simp only [go_sem];done)))))
 repeat' (first|simp only [*,go_sem,Nat.reduceLT,Nat.reduceEqDiff,↓reduceIte,Nat.reduceAdd,Nat.reduceSub]|((with_reducible refine aL [0,4,5,6] (c4) ?_ ?_ ?_ ?_);exact rfl;exact rfl;(focus ((simp only [go_sem];done)))))
 repeat' (first|simp only [*,go_sem,Nat.reduceLT,Nat.reduceEqDiff,↓reduceIte,Nat.reduceAdd,Nat.reduceSub]|((with_reducible refine aL [0,7,8,9] (c5) ?_ ?_ ?_ ?_);exact rfl;exact rfl;(focus ((simp only [go_sem];done)))))
 repeat' (first|simp only [*,go_sem,Nat.reduceLT,Nat.reduceEqDiff,↓reduceIte,Nat.reduceAdd,Nat.reduceSub]|((with_reducible refine aL [0,10,11,12] (c6) ?_ ?_ ?_ ?_);exact rfl;exact rfl;(focus ((simp only [go_sem];done)))))
 repeat' (first|simp only [*,go_sem,Nat.reduceLT,Nat.reduceEqDiff,↓reduceIte,Nat.reduceAdd,Nat.reduceSub]|((with_reducible refine aL [0,13,14,15] (c7) ?_ ?_ ?_ ?_);exact rfl;exact rfl;(focus ((simp only [go_sem];done)))))
 repeat' (first|simp only [*,go_sem,Nat.reduceLT,Nat.reduceEqDiff,↓reduceIte,Nat.reduceAdd,Nat.reduceSub]|((with_reducible refine aL [0,16,17,18] (c8) ?_ ?_ ?_ ?_);exact rfl;exact rfl;(focus ((simp only [go_sem];done)))))
 repeat' (first|simp only [*,go_sem,Nat.reduceLT,Nat.reduceEqDiff,↓reduceIte,Nat.reduceAdd,Nat.reduceSub]|((with_reducible refine aL [0,19,20,21] (c9) ?_ ?_ ?_ ?_);exact rfl;exact rfl;(focus ((simp only [go_sem];done)))))
 repeat' (first|simp only [*,go_sem,Nat.reduceLT,Nat.reduceEqDiff,↓reduceIte,Nat.reduceAdd,anE]|((with_reducible refine bP (mb) ?_ ?_ ?_);exact rfl;exact fun _=>rfl)|((with_reducible refine bP (mc) ?_ ?_ ?_);exact rfl;exact fun _=>rfl)|((with_reducible refine aL [0,22,23,24] (c10) ?_ ?_ ?_ ?_);exact rfl;exact rfl;(focus ((simp only [go_sem];done))))|((with_reducible refine aL [0,22,23,24] (c11) ?_ ?_ ?_ ?_);exact rfl;exact rfl;(focus ((simp only [go_sem];done)))))
 repeat' (first|simp only [*,go_sem,Nat.reduceLT,Nat.reduceEqDiff,↓reduceIte,Nat.reduceAdd,Nat.reduceSub]|((with_reducible refine aL [0,22,23,24] (c12) ?_ ?_ ?_ ?_);exact rfl;exact rfl;(focus ((simp only [go_sem];done)))))
 repeat' (first|simp only [*,go_sem,Nat.reduceLT,Nat.reduceEqDiff,↓reduceIte,Nat.reduceAdd,Nat.reduceSub]|((with_reducible refine aL [0,25,26,27] (c13) ?_ ?_ ?_ ?_);exact rfl;exact rfl;(focus ((simp only [go_sem];done)))))
 repeat' (first|simp only [*,go_sem,Nat.reduceLT,Nat.reduceEqDiff,↓reduceIte,Nat.reduceAdd,Nat.reduceSub]|((with_reducible refine aL [0,28,29,30] (c14) ?_ ?_ ?_ ?_);exact rfl;exact rfl;(focus ((simp only [go_sem];done)))))
 repeat' (first|simp only [*,go_sem,Nat.reduceLT,Nat.reduceEqDiff,↓reduceIte,Nat.reduceAdd]|((with_reducible refine aL [0,31,32,33] (q1) ?_ ?_ ?_ ?_);exact rfl;exact rfl;(focus ((simp only [go_sem];done)))))
 repeat' (first|simp only [*,go_sem,Nat.reduceLT,Nat.reduceEqDiff,↓reduceIte,Nat.reduceAdd,Nat.reduceSub]|((with_reducible refine aL [0,31,32,33] (c15) ?_ ?_ ?_ ?_);exact rfl;exact rfl;(focus ((simp only [go_sem];done)))))
 repeat' (first|simp only [*,go_sem,Nat.reduceLT,Nat.reduceEqDiff,↓reduceIte,Nat.reduceAdd,Nat.reduceSub]|((with_reducible refine aL [0,34,35,36] (c16) ?_ ?_ ?_ ?_);exact rfl;exact rfl;(focus ((simp only [go_sem];done)))))
 repeat' (first|simp only [*,go_sem,Nat.reduceLT,Nat.reduceEqDiff,↓reduceIte,Nat.reduceAdd]|((with_reducible refine aL [0,37,38,39] (q2) ?_ ?_ ?_ ?_);exact rfl;exact rfl;(focus ((simp only [go_sem];done))))|((with_reducible refine aL [0,37,38,39] (q3) ?_ ?_ ?_ ?_);exact rfl;exact rfl;(focus ((simp only [go_sem];done)))))
 repeat' (first|simp only [*,go_sem,Nat.reduceLT,Nat.reduceEqDiff,↓reduceIte,Nat.reduceAdd,Nat.reduceSub]|((with_reducible refine aL [0,37,38,39] (c17) ?_ ?_ ?_ ?_);exact rfl;exact rfl;(focus ((simp only [go_sem];done)))))
 repeat' (first|simp only [*,go_sem,Nat.reduceLT,Nat.reduceEqDiff,↓reduceIte,Nat.reduceAdd,Nat.reduceSub]|((with_reducible refine aL [0,40,41,42] (c18) ?_ ?_ ?_ ?_);exact rfl;exact rfl;(focus ((simp only [go_sem];done)))))
 repeat' (first|simp only [*,go_sem,Nat.reduceLT,Nat.reduceEqDiff,↓reduceIte,Nat.reduceAdd,beq_self_eq_true,List.append_eq,List.cons_append,List.nil_append,List.length_cons,List.length_nil,hdl.down]|((with_reducible refine aL [0,43,44,45] (q4) ?_ ?_ ?_ ?_);exact rfl;exact rfl;(focus ((simp only [go_sem];done)))))
 all_goals first|rfl|simp|skip
end
end Go.Proofs.YtbpblnmhlhpebaaGreatDoor
