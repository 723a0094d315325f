/- Part 44 of the proof of roomKnown_card. No condition. -/
import Derived.Test.YtbpblnmhlhpebaaGreatDoorB42
set_option linter.all false
set_option maxRecDepth 100000
set_option maxHeartbeats 8000000
namespace Go.Proofs.YtbpblnmhlhpebaaGreatDoor
open Go Go.Dm
section
theorem zA4 (base alike o t:Bool):aA Tryz.prog 329 [.c (.p (.b base)),.c (.p (.b alike)),.c (.p (.b o)),.c (.p (.b t))] [] fun d h=>d=.c (.p (.i .i64 (zBH base alike o t)))∧h=[]:=by
 refine ent aB aK Tryz.func329 rfl rfl fun X0 hX=>?_
 simp only [Tryz.f329,go_sem]
 repeat' (first|simp only [*,go_sem,Nat.reduceLT,Nat.reduceEqDiff,↓reduceIte,Nat.reduceAdd]|with_reducible refine aU (fun _=>?_) (fun _=>?_)|with_reducible refine bR (fun _=>?_) (fun _=>?_))
 all_goals ((simp_all [zBH];done))
theorem zKa {k m k' m':Int} {t t':Nat} {d d':List UInt8} (p q:Bool):aA Tryz.prog 262 [.agg (ndc k m t d),.agg (ndc k' m' t' d'),.c (.p (.b p)),.c (.p (.b q))] [] fun r h =>
  r=.c (.p (.b (zBb ⟨k,m,t,d⟩ ⟨k',m',t',d'⟩ p q)))∧h=[]:=by
 refine ent aB aK Tryz.func262 rfl rfl fun X0 hX=>?_
 simp only [Tryz.f262,go_sem]
 repeat' (first|simp only [*,go_sem,Nat.reduceLT,Nat.reduceLeDiff,Nat.reduceEqDiff,↓reduceIte,Nat.reduceAdd]|((with_reducible refine aS (wE) ?_ ?_ ?_);exact rfl;exact rfl)|with_reducible refine bR (fun _=>?_) (fun _=>?_))
 all_goals ((simp_all [zBb];done))
theorem zHm {k m:Int} {t:Nat} {d:List UInt8} (hd:d.length≤140737488355328) (p:Bool):aA Tryz.prog 263 [.agg (ndc k m t d),.c (.p (.b p))] [] fun r h =>
  r=.tup [.agg (if p then ⟨k,m,t,d⟩ else nd0:Nd).cv,.c (.p (.b p)),.c (.p (.i .i64 0))]∧h=[]:=by
 refine aX ?_
 refine ent aB aK Tryz.func263 rfl rfl fun X0 hX=>?_
 simp only [Tryz.f263,go_sem]
 repeat' (first|simp only [*,go_sem,Nat.reduceLT,Nat.reduceLeDiff,Nat.reduceEqDiff,↓reduceIte,Nat.reduceAdd]|((with_reducible refine bP (uS hd) ?_ ?_ ?_);exact rfl;exact fun _=>rfl)|with_reducible refine aU (fun _=>?_) (fun _=>?_))
 all_goals ((simp_all [nd0,oH];done))
theorem zIn {k m k1 m1 k2 m2:Int} {t t1 t2:Nat} {d d1 d2:List UInt8} (h1:d1.length≤140737488355328) (h2:d2.length≤140737488355328) (b:Bool):
  aA Tryz.prog 264 [.agg (ndc k m t d),.agg (ndc k1 m1 t1 d1),.agg (ndc k2 m2 t2 d2),.c (.p (.b b))] [] fun r h =>
  r=.tup [.agg (uP ⟨k,m,t,d⟩ ⟨k1,m1,t1,d1⟩ ⟨k2,m2,t2,d2⟩ b).1.cv,.c (.p (.b (uP ⟨k,m,t,d⟩ ⟨k1,m1,t1,d1⟩ ⟨k2,m2,t2,d2⟩ b).2))]∧h=[]:=by
 refine ent aB aK Tryz.func264 rfl rfl fun X0 hX=>?_
 simp only [Tryz.f264,go_sem]
 repeat' (first|simp only [*,go_sem,Nat.reduceLT,Nat.reduceLeDiff,Nat.reduceEqDiff,↓reduceIte,Nat.reduceAdd]|((with_reducible refine bP (uS h1) ?_ ?_ ?_);exact rfl;exact fun _=>rfl)|((refine aN (id:=2) aB aK [] [0,1,2,3,4,5,6,7,8,9,10,11] (by decide +kernel) ?_);(repeat' (first|(refine aW ?_)|((refine cD ?_ rfl rfl ?_ ?_);(rotate_left 1);(focus ((repeat' (first|simp only [*,go_sem,Nat.reduceLT,Nat.reduceLeDiff,Nat.reduceEqDiff,↓reduceIte,Nat.reduceAdd]|((with_reducible refine aS (zJG) ?_ ?_ ?_);exact rfl;exact rfl)|((with_reducible refine aS (zA4 _ _ _ _) ?_ ?_ ?_);exact rfl;exact rfl)));exact rfl));(simp only [aF])))))|((refine aN (id:=4) aB aK [6,8] [0,1,2,3,5,6,4,7,8] (by decide +kernel) ?_);(repeat' (first|(refine aW ?_)|((refine cX ?_ ?_ rfl rfl rfl ?_ ?_);(rotate_left 2);(focus ((repeat' (simp only [*,go_sem,Nat.reduceLeDiff,Nat.reduceEqDiff,↓reduceIte,Nat.reduceAdd]));((refine And.intro ?_ ?_ <;> exact rfl))));(simp only [bK]))|((refine cY ?_ rfl rfl rfl ?_ ?_);(rotate_left 1);(focus ((repeat' (first|exact bJ|refine aZ ?_ ?_));(all_goals ((repeat' (first|simp only [*,go_sem,Nat.reduceLT,Nat.reduceLeDiff,Nat.reduceEqDiff,↓reduceIte,Nat.reduceAdd]|((with_reducible refine bP (uS h2) ?_ ?_ ?_);exact rfl;exact fun _=>rfl)));(try (exact rfl))))));(simp only [aF])))))|((refine aN (id:=8) aB aK [] [0,1,2,3,4,5,6,7,8,9,10,11,12,13,14,15,16] (by decide +kernel) ?_);(repeat' (first|(refine aW ?_)|((refine cD ?_ rfl rfl ?_ ?_);(rotate_left 1);(focus ((repeat' (first|simp only [*,go_sem,Nat.reduceLT,Nat.reduceEqDiff,↓reduceIte]|((with_reducible refine aS (zA4 _ _ _ _) ?_ ?_ ?_);exact rfl;exact rfl)|((with_reducible refine aS (KO _ _) ?_ ?_ ?_);exact rfl;exact rfl)));exact rfl));(simp only [aF])))))|((with_reducible refine aS (zA4 _ _ _ _) ?_ ?_ ?_);exact rfl;exact rfl)|((with_reducible refine aS (XD _ _) ?_ ?_ ?_);exact rfl;exact rfl)|with_reducible refine aU (fun _=>?_) (fun _=>?_)|with_reducible refine bR (fun _=>?_) (fun _=>?_))
 all_goals ((simp_all [uP];done))
end
section
theorem zJi {k m k1 m1 k2 m2:Int} {t t1 t2:Nat} {d d1 d2:List UInt8} (h1:d1.length≤140737488355328) (h2:d2.length≤140737488355328) (b o' t':Bool):
  aA Tryz.prog 197 [.agg (ndc k m t d),.agg (ndc k1 m1 t1 d1),.agg (ndc k2 m2 t2 d2),.c (.p (.b b)),.c (.p (.b o')),.c (.p (.b t'))] [] fun r h =>
  r=.tup [.agg (wY ⟨k,m,t,d⟩ ⟨k1,m1,t1,d1⟩ ⟨k2,m2,t2,d2⟩ b o' t').1.cv,.c (.p (.b (wY ⟨k,m,t,d⟩ ⟨k1,m1,t1,d1⟩ ⟨k2,m2,t2,d2⟩ b o' t').2.1)),.c (.p (.i .i64 (wY ⟨k,m,t,d⟩ ⟨k1,m1,t1,d1⟩ ⟨k2,m2,t2,d2⟩ b o' t').2.2))]∧h=[]:=by
 refine aX ?_
 refine ent aB aK Tryz.func197 rfl rfl fun X0 hX=>?_
 simp only [Tryz.f197,go_sem]
 repeat' (first|simp only [*,go_sem,Nat.reduceLT,Nat.reduceLeDiff,Nat.reduceEqDiff,↓reduceIte,Nat.reduceAdd]|((with_reducible refine aS (zKa _ _) ?_ ?_ ?_);exact rfl;exact rfl)|((with_reducible refine bP (zHm h1 _) ?_ ?_ ?_);exact rfl;exact fun _=>rfl)|((with_reducible refine bP (zHm h2 _) ?_ ?_ ?_);exact rfl;exact fun _=>rfl)|((with_reducible refine bP (zIn h1 h2 _) ?_ ?_ ?_);exact rfl;exact fun _=>rfl)|with_reducible refine aU (fun _=>?_) (fun _=>?_)|with_reducible refine bR (fun _=>?_) (fun _=>?_))
 all_goals ((simp_all [wY,nd0,oH];done))
end
section
theorem zCK {t:List It} {bad:List Cf} (hl:t.length≤1000) (hb:bad.length≤1000000) (hs:Srt t) (hp:∀ x∈t,x.p.length≤1000):
  aA Tryz.prog 200 [.c (.p (.sl 5 (aV t))),.c (.p (.sl 2 (fS bad)))] [] fun r h=>r=.c (.p (.sl 2 (fS (hU t bad))))∧h=[]:=by
 refine ent aB aK Tryz.func200 rfl rfl fun X0 hX=>?_
 simp only [Tryz.f200,go_sem]
 repeat' (simp only [*,go_sem,Nat.reduceLT,Nat.reduceEqDiff,↓reduceIte])
 refine iC aB aK 5 2 rfl ?_
 refine bC aB aK (α:=Nat × List Cf) (fun x=>⟨38,[(0,.c (.p (.sl 5 (aV t)))),(1,.c (.p (.sl 2 (fS bad)))),(10,.c (.p (.sl 5 (aV t)))),(11,.c (.p (.i .i64 t.length))),(12,.c (.p (.i .i64 x.1))),(5,.c (.own 0 0 x.2.length))],[.arr 2 (fS x.2) false]⟩)
  (fun x=>x.1≤t.length∧x.2.length≤x.1∧x.2++(t.drop x.1).flatMap (KI t bad)=hU t bad) (fun x=>t.length-x.1) (0,[]) ⟨Nat.zero_le _,Nat.le_refl _,rfl⟩ (.inl (aJ (by rw [hX];rfl) rfl rfl (by simp [aI,aM,aD,aH,aG]))) ?_
 rintro ⟨i,out⟩ ⟨hi,hol,hJ⟩
 simp only at hi hol hJ
 by_cases hlt:i<t.length
 ·have hx:t[i]? = some t[i]:=List.getElem?_eq_getElem hlt
  have hg:=cZ hx
  have hd:=drop_at hx
  have h1:decide ((i:Int)<(t.length:Int))=true:=decide_eq_true (by omega)
  have hli:(i:Int)<(t.length:Int):=by omega
  have w1:IntKind.i64.wrap ((i:Int)+1)=i+1:=wrap_i64 (by omega) (by omega)
  have hxp:=hp _ (List.getElem_mem hlt)
  generalize t[i]=x at hx hg hd hxp
  have hdr:=dJ (p:=x.p) (by omega)
  have hdi:=eC (t:=t) (p:=aR x.p) (by omega) hs
  rw [hd,List.flatMap_cons,KI] at hJ
  generalize aR x.p=d at hdr hdi hJ
  have hco:=fun (K:DV→aC→Prop) (hk:K (.c (.p (.b (bad.any fun c=>c.p == d)))) [.arr 2 (fS out) false,.box [.p (.s x.p),.p (.i .i64 x.n.k),.p (.i .i64 x.n.m),.p (.f x.n.t),.p (.sl 1 (cB x.n.d))],.box [.p (.s d)]])=>NH (l:=bad) (eo:=fS out) hb hk
  generalize (bad.any fun c=>c.p == d)=b2 at hco hJ
  generalize aY t d=b1 at hdi hJ
  clear hx hd hp hs
  have hob:out.length≤1000000:=by omega
  cases b1 <;> cases b2
  case false.false =>
   rw [if_pos (by decide)] at hJ
   have hJ2:i+1≤t.length∧(out++[(⟨x.p,7⟩:Cf)]).length≤i+1∧(out++[(⟨x.p,7⟩:Cf)])++(t.drop (i+1)).flatMap (KI t bad)=hU t bad:=⟨by omega,by simp;omega,by simpa using hJ⟩
   clear hJ
   repeat' (first|simp only [*,go_sem,Nat.reduceLT,Nat.reduceLeDiff,Nat.reduceEqDiff,↓reduceIte,Nat.reduceAdd,Nat.reduceMul,Nat.reduceBEq,Bool.not_false]|((with_reducible refine aS (hdr) ?_ ?_ ?_);exact rfl;exact rfl)|refine hco _ ?_|((with_reducible refine aS (hdi) ?_ ?_ ?_);exact rfl;exact rfl)|((with_reducible refine And.intro ?_ ?_);((first|omega|decide))))
   exact jU (i+1,out++[⟨x.p,7⟩]) 0 4 hJ2 (by simp only;omega) rfl rfl (aJ rfl rfl rfl (by simp [aI,aM,aD,aH,aG,GF,DF,DN]))
  all_goals
   rw [if_neg (by decide),List.nil_append] at hJ
   have hJ2:i+1≤t.length∧out.length≤i+1∧out++(t.drop (i+1)).flatMap (KI t bad)=hU t bad:=⟨by omega,by omega,hJ⟩
   clear hJ
   repeat' (first|simp only [*,go_sem,Nat.reduceLT,Nat.reduceLeDiff,Nat.reduceEqDiff,↓reduceIte,Nat.reduceAdd,Bool.not_true,Bool.not_false]|((with_reducible refine aS (hdr) ?_ ?_ ?_);exact rfl;exact rfl)|refine hco _ ?_|((with_reducible refine aS (hdi) ?_ ?_ ?_);exact rfl;exact rfl)|((with_reducible refine And.intro ?_ ?_);omega))
   exact gL (i+1,out) hJ2 (by simp only;omega) (aJ rfl rfl rfl (by simp [aI,aM,aD,aH,aG]))
 ·have h1:decide ((i:Int)<(t.length:Int))=false:=decide_eq_false (by omega)
  rw [List.drop_of_length_le (by omega),List.flatMap_nil,List.append_nil] at hJ
  rw [← hJ]
  clear hJ
  repeat' (simp only [*,go_sem,Nat.reduceLT,Nat.reduceEqDiff,↓reduceIte])
  all_goals first|rfl|(rw [List.take_of_length_le (by simp)])|simp
theorem zCS {b o t:List It} (hb:OkS b) (ho:OkS o) (ht:OkS t):
  aA Tryz.prog 201 [.c (.p (.sl 5 (aV b))),.c (.p (.sl 5 (aV o))),.c (.p (.sl 5 (aV t)))] [] fun r h=>r=.c (.p (.sl 2 (fS (gY (dE (dO b o)) (dE (dO b t))))))∧h=[]:=by
 have d1:=QV hb.len ho.len hb.srt ho.srt hb.ne ho.ne hb.dlen ho.dlen
 have d2:=QV hb.len ht.len hb.srt ht.srt hb.ne ht.ne hb.dlen ht.dlen
 have l1:=xR b o
 have l2:=xR b t
 have e1:=hb.len
 have e2:=ho.len
 have e3:=ht.len
 have p1:=zA2 (l:=dO b o) (by omega) (KL hb ho)
 have p2:=zA2 (l:=dO b t) (by omega) (KL hb ht)
 have m1:=sZ (dO b o)
 have m2:=sZ (dO b t)
 have hAl:(dE (dO b o)).length≤240:=by omega
 have hBl:(dE (dO b t)).length≤240:=by omega
 clear l1 l2 m1 m2
 generalize dO b o=D1 at *
 generalize dO b t=D2 at *
 generalize dE D1=A at *
 generalize dE D2=B at *
 refine ent aB aK Tryz.func201 rfl rfl fun X0 hX=>?_
 simp only [Tryz.f201,go_sem]
 repeat' (first|simp only [*,go_sem,Nat.reduceLT,Nat.reduceEqDiff,↓reduceIte,Nat.reduceAdd]|((with_reducible refine bP (d1) ?_ ?_ ?_);exact rfl;exact fun _=>rfl)|((with_reducible refine bP (d2) ?_ ?_ ?_);exact rfl;exact fun _=>rfl)|((with_reducible refine bP (p1) ?_ ?_ ?_);exact rfl;exact fun _=>rfl)|((with_reducible refine bP (p2) ?_ ?_ ?_);exact rfl;exact fun _=>rfl))
 refine iC aB aK 9 2 rfl ?_
 refine bC aB aK (α:=Nat × List Cf) (fun x=>⟨50,[(8,.c (.p (.sl 2 (qD B)))),(22,.c (.p (.sl 2 (qD A)))),(23,.c (.p (.i .i64 A.length))),(24,.c (.p (.i .i64 x.1))),(9,.c (.own 0 0 x.2.length))],[.arr 2 (fS x.2) false]⟩)
  (fun x=>x.1≤A.length∧x.2.length≤x.1∧x.2++(A.drop x.1).flatMap (zG9 B)=gY A B) (fun x=>A.length-x.1) (0,[]) ⟨Nat.zero_le _,Nat.le_refl _,rfl⟩ (.inl (aJ (by rw [hX];rfl) rfl rfl (by simp [aI,aM,aD,aH,aG]))) ?_
 clear d1 d2 p1 p2
 rintro ⟨i,out⟩ ⟨hi,hol,hJ⟩
 simp only at hi hol hJ
 by_cases hlt:i<A.length
 ·have hx:A[i]? = some A[i]:=List.getElem?_eq_getElem hlt
  have hg:=PX hx
  have hd:=drop_at hx
  have h1:decide ((i:Int)<(A.length:Int))=true:=decide_eq_true (by omega)
  have hli:(i:Int)<(A.length:Int):=by omega
  have w1:IntKind.i64.wrap ((i:Int)+1)=i+1:=wrap_i64 (by omega) (by omega)
  generalize A[i]=x at hx hg hd
  have hto:=to_c (l:=B) (p:=x.a) (by omega)
  rw [hd,List.flatMap_cons,zG9] at hJ
  clear hx hd
  have hob:out.length≤1000000:=by omega
  cases htx:toF B x.a with
  | none =>
   rw [htx] at hto hJ
   simp only [Option.getD_none,Option.isSome_none,List.nil_append] at hto hJ
   have hJ2:i+1≤A.length∧out.length≤i+1∧out++(A.drop (i+1)).flatMap (zG9 B)=gY A B:=⟨by omega,by omega,hJ⟩
   clear hJ htx
   repeat' (first|simp only [*,go_sem,Nat.reduceLT,Nat.reduceLeDiff,Nat.reduceEqDiff,↓reduceIte,Nat.reduceAdd]|((with_reducible refine aS (hto) ?_ ?_ ?_);exact rfl;exact rfl)|((with_reducible refine And.intro ?_ ?_);omega))
   exact gL (i+1,out) hJ2 (by simp only;omega) (aJ rfl rfl rfl (by simp [aI,aM,aD,aH,aG]))
  | some q =>
   rw [htx] at hto hJ
   simp only [Option.getD_some,Option.isSome_some] at hto hJ
   have n1:(q != x.b) = !(q == x.b):=rfl
   rw [n1] at hJ
   clear htx
   cases hq:(q == x.b)
   ·rw [hq,if_pos (by decide)] at hJ
    rw [hq] at n1
    have hJ2:i+1≤A.length∧(out++[(⟨x.a,6⟩:Cf)]).length≤i+1∧(out++[(⟨x.a,6⟩:Cf)])++(A.drop (i+1)).flatMap (zG9 B)=gY A B:=⟨by omega,by simp;omega,by simpa using hJ⟩
    clear hJ
    repeat' (first|simp only [*,go_sem,Nat.reduceLT,Nat.reduceLeDiff,Nat.reduceEqDiff,↓reduceIte,Nat.reduceAdd,Nat.reduceMul,Nat.reduceBEq,Bool.not_false]|((with_reducible refine aS (hto) ?_ ?_ ?_);exact rfl;exact rfl)|((with_reducible refine And.intro ?_ ?_);((first|omega|decide))))
    exact jU (i+1,out++[⟨x.a,6⟩]) 0 3 hJ2 (by simp only;omega) rfl rfl (aJ rfl rfl rfl (by simp [aI,aM,aD,aH,aG,GF,DF,DN]))
   ·rw [hq,if_neg (by decide),List.nil_append] at hJ
    rw [hq] at n1
    have hJ2:i+1≤A.length∧out.length≤i+1∧out++(A.drop (i+1)).flatMap (zG9 B)=gY A B:=⟨by omega,by omega,hJ⟩
    clear hJ
    repeat' (first|simp only [*,go_sem,Nat.reduceLT,Nat.reduceLeDiff,Nat.reduceEqDiff,↓reduceIte,Nat.reduceAdd,Bool.not_true]|((with_reducible refine aS (hto) ?_ ?_ ?_);exact rfl;exact rfl)|((with_reducible refine And.intro ?_ ?_);omega))
    exact gL (i+1,out) hJ2 (by simp only;omega) (aJ rfl rfl rfl (by simp [aI,aM,aD,aH,aG]))
 ·have h1:decide ((i:Int)<(A.length:Int))=false:=decide_eq_false (by omega)
  rw [List.drop_of_length_le (by omega),List.flatMap_nil,List.append_nil] at hJ
  rw [← hJ]
  clear hJ
  repeat' (simp only [*,go_sem,Nat.reduceLT,Nat.reduceEqDiff,↓reduceIte])
  all_goals first|rfl|(rw [List.take_of_length_le (by simp)])|simp
end
section
theorem zII {b o t:List It} (hb:OkS b) (ho:OkS o) (ht:OkS t):
  aA Tryz.prog 124 [.c (.p (.sl 5 (aV b))),.c (.p (.sl 5 (aV o))),.c (.p (.sl 5 (aV t)))] [] fun r h=>r=.tup [.c (.p (.sl 5 (aV (dZ b o t).1))),.c (.p (.sl 2 (fS (dZ b o t).2)))]∧h=[]:=by
 refine aX ?_
 have e1:=hb.len
 have e2:=ho.len
 have e3:=ht.len
 have d1:∀ x∈b,x.n.d.length≤140737488355328:=fun x hx=>Nat.le_trans (hb.dlen x hx) (by decide)
 have d2:∀ x∈o,x.n.d.length≤140737488355328:=fun x hx=>Nat.le_trans (ho.dlen x hx) (by decide)
 have d3:∀ x∈t,x.n.d.length≤140737488355328:=fun x hx=>Nat.le_trans (ht.dlen x hx) (by decide)
 have hp:=zGg (ts:=[b,o,t]) (by simp) (by intro s hs;simp at hs;rcases hs with rfl|rfl|rfl <;> assumption)
 simp only [List.map_cons,List.map_nil,List.flatten_cons,List.flatten_nil,List.append_nil] at hp
 have hpl:=VK b o t
 have hren:=zCS hb ho ht
 have hol0:=zFb b o t (fX b o t)
 have hbl0:=zFJ b o t (fX b o t)
 have horp:=zCK (t:=FF b o t) (bad:=pI b o t (fX b o t)) (by unfold FF;omega) (by omega) (SC b o t) (zAQ hb ho ht)
 have hml:(dZ b o t)=if (ZI b o t).length == 0 then (FF b o t,[]) else ([],ZI b o t):=rfl
 have hbe:ZI b o t=tR (pI b o t (fX b o t)++(hU (FF b o t) (pI b o t (fX b o t))++gY (dE (dO b o)) (dE (dO b t)))):=rfl
 have hor:=QU (FF b o t) (pI b o t (fX b o t))
 have hrl:=QM (dE (dO b o)) (dE (dO b t))
 have hrl2:=sZ (dO b o)
 have hrl3:=xR b o
 rw [hml,hbe]
 clear hml hbe
 unfold FF at *
 unfold fX at *
 generalize Lib.compact (((b++(o++t)).map It.p).mergeSort fun x y=>decide (x≤y))=ps at *
 generalize gY (dE (dO b o)) (dE (dO b t))=rn at *
 generalize hQ:hU (GS b o t ps) (pI b o t ps)=q at *
 clear hQ
 refine zMi aB Tryz.func124 rfl rfl fun X0 hX=>?_
 simp only [Tryz.f124,go_sem]
 refine dB aB aK ?_
 repeat' (simp only [*,go_sem,Nat.reduceLT,Nat.reduceAdd])
 refine dB aB aK ?_
 repeat' (simp only [*,go_sem,Nat.reduceLT])
 refine dB aB aK ?_
 repeat' (simp only [*,go_sem,Nat.reduceLT])
 refine vZ aB aK (α:=Unit) (fun _=>⟨92,[(0,.c (.p (.sl 5 (aV b)))),(1,.c (.p (.sl 5 (aV o)))),(2,.c (.p (.sl 5 (aV t)))),(8,.c (.p (.sl 5 (aV (GS b o t ps))))),(9,.c (.p (.sl 2 (fS (pI b o t ps)))))],[]⟩) (fun _=>True) ?_ ?_
 ·repeat' (first|simp only [*,go_sem,Nat.reduceLT,Nat.reduceLeDiff,Nat.reduceEqDiff,↓reduceIte]|((with_reducible refine bP (hp) ?_ ?_ ?_);exact rfl;exact fun _=>rfl)|((with_reducible apply aA.frz);exact rfl;exact rfl)|((with_reducible refine And.intro ?_ ?_);decide))
  refine iC aB aK 8 5 rfl ?_
  refine iC aB aK 9 2 rfl ?_
  refine bC aB aK (α:=Nat × List It × List Cf) (fun x=>⟨92,[(0,.c (.p (.sl 5 (aV b)))),(1,.c (.p (.sl 5 (aV o)))),(2,.c (.p (.sl 5 (aV t)))),(25,.c (.p (.sl 1 (Go.Dm.encS ps)))),(26,.c (.p (.i .i64 ps.length))),(27,.c (.p (.i .i64 x.1))),(8,.c (.own 1 0 x.2.1.length)),(9,.c (.own 2 0 x.2.2.length))],
    [.arr 1 [[.sl 5 (aV b)],[.sl 5 (aV o)],[.sl 5 (aV t)]] true,.arr 5 (aV x.2.1) false,.arr 2 (fS x.2.2) false]⟩)
   (fun x=>x.1≤ps.length∧x.2.1.length≤x.1∧x.2.2.length≤x.1∧x.2.1++GS b o t (ps.drop x.1)=GS b o t ps∧x.2.2++pI b o t (ps.drop x.1)=pI b o t ps) (fun x=>ps.length-x.1) (0,[],[]) ⟨Nat.zero_le _,Nat.le_refl _,Nat.le_refl _,rfl,rfl⟩ (.inl (aJ (by rw [hX];rfl) rfl rfl (by simp [aI,aM,aD,aH,aG,vP]))) ?_
  clear hp hren horp hor hrl hrl2 hrl3
  rintro ⟨k,out,bad⟩ ⟨hk,hol,hbl,hJ,hK⟩
  simp only at hk hol hbl hJ hK
  by_cases hlt:k<ps.length
  ·have hx:ps[k]? = some ps[k]:=List.getElem?_eq_getElem hlt
   have hd:=drop_at hx
   have hg:=Go.Dm.encS_at hx
   have h1:decide ((k:Int)<(ps.length:Int))=true:=decide_eq_true (by omega)
   have hli:(k:Int)<(ps.length:Int):=by omega
   have w1:IntKind.i64.wrap ((k:Int)+1)=k+1:=wrap_i64 (by omega) (by omega)
   generalize ps[k]=p at hx hg hd
   have g1:=eT (t:=b) (p:=p) (by omega) hb.srt hb.ne d1
   have g2:=eT (t:=o) (p:=p) (by omega) ho.srt ho.ne d2
   have g3:=eT (t:=t) (p:=p) (by omega) ht.srt ht.ne d3
   have y2:((aQ o p).getD nd0).d.length≤140737488355328:=Nat.le_trans (ho.getd p) (by decide)
   have y3:((aQ t p).getD nd0).d.length≤140737488355328:=Nat.le_trans (ht.getd p) (by decide)
   rw [hd] at hJ hK
   have eJ:GS b o t (p::ps.drop (k+1))=mgI b o t p++GS b o t (ps.drop (k+1)):=rfl
   have eK:pI b o t (p::ps.drop (k+1))=mgC b o t p++pI b o t (ps.drop (k+1)):=rfl
   rw [eJ] at hJ
   rw [eK] at hK
   unfold mgI at hJ
   unfold mgC at hK
   unfold mgN at hJ hK
   have hnc:=zJi (k:=((aQ b p).getD nd0).k) (m:=((aQ b p).getD nd0).m) (t:=((aQ b p).getD nd0).t) (d:=((aQ b p).getD nd0).d) (k1:=((aQ o p).getD nd0).k) (m1:=((aQ o p).getD nd0).m) (t1:=((aQ o p).getD nd0).t) (d1:=((aQ o p).getD nd0).d) (k2:=((aQ t p).getD nd0).k) (m2:=((aQ t p).getD nd0).m) (t2:=((aQ t p).getD nd0).t) (d2:=((aQ t p).getD nd0).d) y2 y3 (aQ b p).isSome (aQ o p).isSome (aQ t p).isSome
   simp only [zHk] at hnc
   generalize (aQ b p).getD nd0=x at g1 hnc hJ hK
   generalize (aQ b p).isSome=u at g1 hnc hJ hK
   generalize (aQ o p).getD nd0=y at g2 hnc hJ hK
   generalize (aQ o p).isSome=v at g2 hnc hJ hK
   generalize (aQ t p).getD nd0=z at g3 hnc hJ hK
   generalize (aQ t p).isSome=w at g3 hnc hJ hK
   generalize wY x y z u v w=N at hnc hJ hK
   obtain ⟨n,ok,kk⟩:=N
   simp only at hnc hJ hK
   clear hx hd eJ eK y2 y3 d1 d2 d3
   have n1:(kk != 0) = !(kk == 0):=rfl
   cases hq:(kk == 0)
   ·rw [n1,hq,if_pos (by decide)] at hJ hK
    rw [hq] at n1
    rw [List.nil_append] at hJ
    have hJ2:k+1≤ps.length∧out.length≤k+1∧(bad++[(⟨p,kk⟩:Cf)]).length≤k+1∧out++GS b o t (ps.drop (k+1))=GS b o t ps∧(bad++[(⟨p,kk⟩:Cf)])++pI b o t (ps.drop (k+1))=pI b o t ps:=⟨by omega,by omega,by simp;omega,hJ,by simpa using hK⟩
    clear hJ hK hq
    repeat' (first|simp only [*,go_sem,Nat.reduceLT,Nat.reduceLeDiff,Nat.reduceEqDiff,↓reduceIte,Nat.reduceAdd,Nat.reduceMul,Nat.reduceBEq,Bool.not_false]|((with_reducible refine bP (g1) ?_ ?_ ?_);exact rfl;exact fun _=>rfl)|((with_reducible refine bP (g2) ?_ ?_ ?_);exact rfl;exact fun _=>rfl)|((with_reducible refine bP (g3) ?_ ?_ ?_);exact rfl;exact fun _=>rfl)|((with_reducible refine bP (hnc) ?_ ?_ ?_);exact rfl;exact fun _=>rfl)|((with_reducible refine And.intro ?_ ?_);((first|omega|decide))))
    exact jU (k+1,out,bad++[⟨p,kk⟩]) 2 8 hJ2 (by simp only;omega) rfl rfl (aJ rfl rfl rfl (by simp [aI,aM,aD,aH,aG,GF,DF,DN]))
   ·rw [n1,hq,if_neg (by decide)] at hJ hK
    rw [hq] at n1
    rw [List.nil_append] at hK
    cases ok
    ·rw [if_neg (by decide),List.nil_append] at hJ
     have hJ2:k+1≤ps.length∧out.length≤k+1∧bad.length≤k+1∧out++GS b o t (ps.drop (k+1))=GS b o t ps∧bad++pI b o t (ps.drop (k+1))=pI b o t ps:=⟨by omega,by omega,by omega,hJ,hK⟩
     clear hJ hK hq
     repeat' (first|simp only [*,go_sem,Nat.reduceLT,Nat.reduceLeDiff,Nat.reduceEqDiff,↓reduceIte,Nat.reduceAdd,Bool.not_true]|((with_reducible refine bP (g1) ?_ ?_ ?_);exact rfl;exact fun _=>rfl)|((with_reducible refine bP (g2) ?_ ?_ ?_);exact rfl;exact fun _=>rfl)|((with_reducible refine bP (g3) ?_ ?_ ?_);exact rfl;exact fun _=>rfl)|((with_reducible refine bP (hnc) ?_ ?_ ?_);exact rfl;exact fun _=>rfl)|((with_reducible refine And.intro ?_ ?_);omega))
     exact gL (k+1,out,bad) hJ2 (by simp only;omega) (aJ rfl rfl rfl (by simp [aI,aM,aD,aH,aG]))
    ·rw [if_pos rfl] at hJ
     have hJ2:k+1≤ps.length∧(out++[(⟨p,n⟩:It)]).length≤k+1∧bad.length≤k+1∧(out++[(⟨p,n⟩:It)])++GS b o t (ps.drop (k+1))=GS b o t ps∧bad++pI b o t (ps.drop (k+1))=pI b o t ps:=⟨by omega,by simp;omega,by omega,by simpa using hJ,hK⟩
     clear hJ hK hq
     repeat' (first|simp only [*,go_sem,Nat.reduceLT,Nat.reduceLeDiff,Nat.reduceEqDiff,↓reduceIte,Nat.reduceAdd,Nat.reduceMul,Nat.reduceBEq,Bool.not_true]|((with_reducible refine bP (g1) ?_ ?_ ?_);exact rfl;exact fun _=>rfl)|((with_reducible refine bP (g2) ?_ ?_ ?_);exact rfl;exact fun _=>rfl)|((with_reducible refine bP (g3) ?_ ?_ ?_);exact rfl;exact fun _=>rfl)|((with_reducible refine bP (hnc) ?_ ?_ ?_);exact rfl;exact fun _=>rfl)|((with_reducible refine And.intro ?_ ?_);((first|omega|decide))))
     exact jU (k+1,out++[⟨p,n⟩],bad) 1 8 hJ2 (by simp only;omega) rfl rfl (aJ rfl rfl rfl (by simp [aI,aM,aD,aH,aG,GF,DF,DN]))
  ·have h1:decide ((k:Int)<(ps.length:Int))=false:=decide_eq_false (by omega)
   rw [List.drop_of_length_le (by omega)] at hJ hK
   have eJ:out=GS b o t ps:=by rw [← hJ];simp [GS]
   have eK:bad=pI b o t ps:=by rw [← hK];simp [pI]
   clear hJ hK
   rw [← eJ,← eK]
   clear eJ eK
   repeat' (simp only [*,go_sem,Nat.reduceLT,Nat.reduceEqDiff,↓reduceIte])
   exact zEa () 8 1 0 out.length 9 2 0 bad.length trivial rfl (SJ rfl (by rw [cU])) rfl (SJ rfl (by rw [wH])) (aJ (by rw [hX];rfl) rfl rfl (by simp [aI,aM,aD,aH,aG]))
 rintro - -
 refine iG aB aK ?_
 have hcc:=zDF (a:=pI b o t ps) (b:=q) (c:=rn) (by omega) (by omega) (by omega)
 have hsl:=HE (pI b o t ps++(q++rn))
 have hll:(pI b o t ps++(q++rn)).length=(pI b o t ps).length+q.length+rn.length:=by simp;omega
 have hsz:(pI b o t ps++(q++rn)).length≤1000000:=by omega
 clear hp hor hrl hrl2 hrl3 hpl d1 d2 d3
 generalize GS b o t ps=out at *
 generalize pI b o t ps=bad at *
 generalize bad++(q++rn)=all at *
 generalize bad.length+q.length+rn.length=n at hcc hll
 have hke:(tR all).take n=tR all:=List.take_of_length_le (by omega)
 have hk:∀ (h:aC) (id:Nat) (K:DV→aC→Prop),h[id]? = some (.arr 2 (fS all) false)→K (.c (.own id 0 n)) (h.set id (.arr 2 (fS (tR all)) false))→aA Tryz.prog 198 [.c (.own id 0 n)] h K:=fun h id K h1 h2=>zGs h1 (by omega) (by omega) (by rw [hll];exact h2)
 rw [hsl,hll]
 clear hsl hll hsz hol0 hbl0
 by_cases h0:n=0
 ·have hb0:decide ((0:Int)<(n:Int))=false:=decide_eq_false (by omega)
  have hq0:(n == 0)=true:=by simpa using h0
  rw [hq0,if_pos rfl]
  clear h0 hq0
  simp only
  repeat' (first|simp only [*,go_sem,Nat.reduceLT,Nat.reduceLeDiff,Nat.reduceEqDiff,↓reduceIte,List.set_cons_succ,List.set_cons_zero]|((with_reducible refine bP (horp) ?_ ?_ ?_);exact rfl;exact fun _=>rfl)|((with_reducible refine bP (hren) ?_ ?_ ?_);exact rfl;exact fun _=>rfl)|refine VX hcc rfl ?_|refine hk _ _ _ rfl ?_|((with_reducible refine And.intro ?_ ?_);decide))
  all_goals first|(simp;done)|trace_state
 ·have hb0:decide ((0:Int)<(n:Int))=true:=decide_eq_true (by omega)
  have hq0:(n == 0)=false:=by simpa using h0
  rw [hq0,if_neg (by decide)]
  clear h0 hq0
  simp only
  repeat' (first|simp only [*,go_sem,Nat.reduceLT,Nat.reduceLeDiff,Nat.reduceEqDiff,↓reduceIte,List.set_cons_succ,List.set_cons_zero]|((with_reducible refine bP (horp) ?_ ?_ ?_);exact rfl;exact fun _=>rfl)|((with_reducible refine bP (hren) ?_ ?_ ?_);exact rfl;exact fun _=>rfl)|refine VX hcc rfl ?_|refine hk _ _ _ rfl ?_|((with_reducible refine And.intro ?_ ?_);decide))
  all_goals first|(simp;done)|trace_state
end
end Go.Proofs.YtbpblnmhlhpebaaGreatDoor
namespace Go.Proofs.YtbpblnmhlhpebaaGreatDoor
open Go Go.Dm Go.Proofs
section
theorem SK {b o t:List It} (hb:OkS b) (ho:OkS o) (ht:OkS t):
  aA Tryz.prog 62 [.c (.p (.sl 5 (aV b))),.c (.p (.sl 5 (aV o))),.c (.p (.sl 5 (aV t)))] [] fun r h=>r=.tup [.c (.p (.sl 5 (aV (eZ b o t).1))),.c (.p (.sl 2 (fS (eZ b o t).2.1))),.c (.p (.i .i64 (eZ b o t).2.2))]∧h=[]:=by
 have hm:=zII hb ho ht
 unfold eZ
 generalize dZ b o t=m at *
 obtain ⟨m1,m2⟩:=m
 simp only at *
 refine aX ?_
 clear hb ho ht
 cases h1:decide (0<(m2.length:Int))
 ·simp only [Bool.false_eq_true,if_false]
  cases h2:decide (120<(m1.length:Int))
  ·simp only [Bool.false_eq_true,if_false]
   refine ent aB aK Tryz.func62 rfl rfl fun X0 hX=>?_
   simp only [Tryz.f62,go_sem]
   repeat' (first|simp only [*,go_sem,Nat.reduceLT,Nat.reduceEqDiff,↓reduceIte,Nat.reduceAdd]|((with_reducible refine bP (hm) ?_ ?_ ?_);exact rfl;exact fun _=>rfl))
   all_goals first|exact .inr ⟨2,rfl⟩|exact ⟨.inl rfl,.inr ⟨rfl,2,rfl⟩,.inl rfl,True.intro⟩
  ·simp only [if_true]
   refine ent aB aK Tryz.func62 rfl rfl fun X0 hX=>?_
   simp only [Tryz.f62,go_sem]
   repeat' (first|simp only [*,go_sem,Nat.reduceLT,Nat.reduceEqDiff,↓reduceIte,Nat.reduceAdd]|((with_reducible refine bP (hm) ?_ ?_ ?_);exact rfl;exact fun _=>rfl))
   all_goals first|exact ⟨.inr ⟨5,rfl⟩,.inr ⟨2,rfl⟩⟩|exact ⟨.inr ⟨rfl,5,rfl⟩,.inr ⟨rfl,2,rfl⟩,.inl rfl,True.intro⟩
 ·simp only [if_true]
  refine ent aB aK Tryz.func62 rfl rfl fun X0 hX=>?_
  simp only [Tryz.f62,go_sem]
  repeat' (first|simp only [*,go_sem,Nat.reduceLT,Nat.reduceEqDiff,↓reduceIte,Nat.reduceAdd]|((with_reducible refine bP (hm) ?_ ?_ ?_);exact rfl;exact fun _=>rfl))
  all_goals first|exact .inr ⟨5,rfl⟩|exact ⟨.inr ⟨rfl,5,rfl⟩,.inl rfl,.inl rfl,True.intro⟩
end
end Go.Proofs.YtbpblnmhlhpebaaGreatDoor
