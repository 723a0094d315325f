/- Part 39 of the proof of roomDeep_card, set without needless blanks. No condition. -/
import Derived.Test.YtlbfnbldeefgmaaGreatDoorC37
set_option linter.all false
section
namespace Go.Proofs.YtlbfnbldeefgmaaGreatDoor
open Go Go.Dm Go.Proofs
set_option maxRecDepth 100000
set_option maxHeartbeats 4000000
theorem zAt {h:aB} {n:Nat} (hn:n≤1000000000):
  aA Tryz.prog 353 [.c (.p .nil),.c (.p (.i .i64 n))] h fun d h'=>d=.c (.own h.length 0 0)∧h'=h++[.arr 1 [] false]:=by
 have:=uN (n:=n) (h:=h) (e:=9) aC (by rw [tab9];exact fun h=>by cases h) (by rw [tab9];decide) (enters Tryz.func353 rfl rfl)
  (fun w=>Any8.slices_Grow_room Tryz.growStr none 0 0 0 w (Nat.le_refl _) (by decide) (by decide) (Nat.le_refl _))
  (fun i0 z n w h1 h2 h3 h4 h5 h6=>by
   have:=Any8.slices_Grow_grow Tryz.growStr i0 z h1 h2 h3 none 0 0 n [] w (Nat.le_refl _) (by omega) (by simpa using h5) (by simpa using h6) (by simp) (fun _=>rfl) (fun a ha=>by cases ha)
   simp only [Nat.zero_add,Nat.sub_zero] at this;exact this)
  (by rw [tab9];simp only;omega) (by omega)
 rw [tab9] at this;exact this
theorem SE {h:aB} {n:Nat} (hn:n≤1000000000):
  aA Tryz.prog 297 [.c (.p .nil),.c (.p (.i .i64 n))] h fun d h'=>d=.c (.own h.length 0 0)∧h'=h++[.arr 1 [] false]:=by
 have:=uN (n:=n) (h:=h) (e:=5) aC (by rw [tab5];exact fun h=>by cases h) (by rw [tab5];decide) (enters Tryz.func297 rfl rfl)
  (fun w=>Any8.slices_Grow_room Tryz.growByte none 0 0 0 w (Nat.le_refl _) (by decide) (by decide) (Nat.le_refl _))
  (fun i0 z n w h1 h2 h3 h4 h5 h6=>by
   have:=Any8.slices_Grow_grow Tryz.growByte i0 z h1 h2 h3 none 0 0 n [] w (Nat.le_refl _) (by omega) (by simpa using h5) (by simpa using h6) (by simp) (fun _=>rfl) (fun a ha=>by cases ha)
   simp only [Nat.zero_add,Nat.sub_zero] at this;exact this)
  (by rw [tab5];simp only;omega) (by omega)
 rw [tab5] at this;exact this
theorem zAu {h:aB} {n:Nat} {K:DV→aB→Prop} (hn:n≤1000000000) (hk:K (.c (.own h.length 0 0)) (h++[.arr 1 [] false])):
  aA Tryz.prog 353 [.c (.p .nil),.c (.p (.i .i64 n))] h K:=(zAt hn).mono (by rintro _ _ ⟨rfl,rfl⟩;exact hk)
theorem SF {h:aB} {n:Nat} {K:DV→aB→Prop} (hn:n≤1000000000) (hk:K (.c (.own h.length 0 0)) (h++[.arr 1 [] false])):
  aA Tryz.prog 297 [.c (.p .nil),.c (.p (.i .i64 n))] h K:=(SE hn).mono (by rintro _ _ ⟨rfl,rfl⟩;exact hk)
theorem XG {a b:List (List UInt8)} (ha:a.length≤100000) (hb:b.length≤100000):
  aA Tryz.prog 288 [.c (.p (.sl 1 [[.sl 1 (Go.Dm.encS a)],[.sl 1 (Go.Dm.encS b)]]))] [] fun r h=>r=.c (.p (.sl 1 (Go.Dm.encS (a++b))))∧h=[]:=by
 have w1:IntKind.i64.wrap ((a.length:Int))=a.length:=wrap_i64 (by omega) (by omega);have w2:IntKind.i64.wrap ((a.length:Int)+b.length)=((a.length+b.length:Nat):Int):=by rw [wrap_i64 (by omega) (by omega)];omega
 have h1:decide ((a.length:Int)<0)=false:=decide_eq_false (by omega);have h2:decide (((a.length+b.length:Nat):Int)<0)=false:=decide_eq_false (by omega);refine ent aC aK Tryz.func288 rfl rfl fun X0 hX=>?_;simp only [Tryz.f288,go_sem]
 repeat' (first|simp only [*,go_sem,Nat.reduceLT,Nat.reduceLeDiff,Nat.reduceEqDiff,↓reduceIte,Nat.reduceAdd,Int.reduceLT,Int.reduceLE,Int.reduceAdd,Int.reduceNeg,Int.reduceToNat,Int.zero_add]|refine gD aC aK 3 ?_|refine zAu (n:=a.length+b.length) (by omega) ?_|((with_reducible refine And.intro ?_ ?_);omega))
 all_goals rw [List.take_of_length_le (by simp)]
theorem SR {d s:List UInt8} (hd:d.length≤1000000) (hs:s.length≤1000000):aA Tryz.prog 235 [.c (.p (.s d)),.c (.p (.s s))] [] fun r h=>r=.c (.p (.s (iE d s)))∧h=[]:=by
 unfold iE;refine ent aC aK Tryz.func235 rfl rfl fun X0 hX=>?_;simp only [Tryz.f235,go_sem]
 repeat' (first|simp only [*,go_sem,Nat.reduceLT,Nat.reduceLeDiff,Nat.reduceEqDiff,↓reduceIte,]|with_reducible refine aR (fun _=>?_) (fun _=>?_)|((with_reducible refine And.intro ?_ ?_);omega))
 all_goals simp_all
theorem zFg (s:List UInt8):(s.all fun b=>!(b == 0))=s.all fun b=>!((b.toNat:Int) == 0):=by
 congr 1;funext b
 congr 1
 rw [Bool.eq_iff_iff,beq_iff_eq,beq_iff_eq];constructor
 ·rintro rfl;rfl
 ·intro h;exact UInt8.toNat_inj.1 (by have:(0:UInt8).toNat=0:=rfl;omega)
theorem vY {s:List UInt8} (hs:s.length≤9223372036854775807):aA Tryz.prog 172 [.c (.p (.s s))] [] fun r h=>r=.tup [.c (.p (.sl 1 (Go.Dm.encS (eT s).1))),.c (.p (.i .i64 (eT s).2))]∧h=[]:=by
 have e0:decide (0≤Lib.indexByte s (Nat.toUInt8 0)) = !(s.all fun b=>!((b.toNat:Int) == 0)):=by
  have:=indexByte_none 0 s;rw [← zFg,← this,← decide_not];exact decide_eq_decide.2 (by rw [Int.not_lt];exact Iff.rfl)
 refine bN ?_;unfold eT;cases q0:decide ((120:Int)<s.length)
 ·rw [if_neg (by decide)];have q0':¬ (120:Int)<s.length:=of_decide_eq_false q0;generalize (s.all fun b=>!((b.toNat:Int) == 0))=q1 at e0 ⊢;cases q1
  ·
   rw [if_pos (by rfl)];refine ent aC aK Tryz.func172 rfl rfl fun X0 hX=>?_;simp only [Tryz.f172,go_sem]
   repeat' (first|simp only [*,go_sem,Nat.reduceLT,Nat.reduceEqDiff,↓reduceIte,Int.reduceToNat,]|((with_reducible refine aQ (oA (by omega)) ?_ ?_ ?_);exact rfl;exact rfl))
   all_goals exact .inr ⟨_,rfl⟩
  ·rw [if_neg (by decide)];have hcl:(DP s).length≤s.length+1:=pE s [];have hsp:=zBZ (a:=s) (by omega);generalize DP s=P at hcl hsp ⊢;refine ent aC aK Tryz.func172 rfl rfl fun X0 hX=>?_;simp only [Tryz.f172,go_sem]
   repeat' (first|simp only [*,go_sem,Nat.reduceLT,Nat.reduceEqDiff,↓reduceIte,Int.reduceToNat,]|((with_reducible refine aQ (oA (by omega)) ?_ ?_ ?_);exact rfl;exact rfl)|((with_reducible refine cH (hsp) ?_ ?_ ?_);exact rfl;exact fun _=>rfl))
   clear hsp e0;refine DL aC aK 4 1 rfl ?_;refine bQ aC aK (α:=Nat × List (List UInt8)) (fun x=>⟨33,[(16,.c (.p (.sl 1 (Go.Dm.encS P)))),(17,.c (.p (.i .i64 P.length))),(18,.c (.p (.i .i64 x.1))),(4,.c (.own 0 0 x.2.length))],[.arr 1 (Go.Dm.encS x.2) false]⟩)
    (fun x=>x.1≤P.length∧((P.take x.1).all fun y=>!decide ((24:Int)<y.length))=true∧((P.take x.1).filter fun y=>!(y == []))=x.2) (fun x=>P.length-x.1) (0,[]) ⟨Nat.zero_le _,rfl,rfl⟩ (.inl (aJ (by rw [hX];rfl) rfl rfl (by simp [aH,aN,aD,aL,aG,BG]))) ?_
   rintro ⟨k,out⟩ ⟨hk,hal,hfo⟩;simp only at hk hal hfo;have hol:out.length≤k:=by rw [← hfo];exact Nat.le_trans (List.length_filter_le ..) (List.length_take_le ..)
   by_cases hlt:k<P.length
   ·have hx:P[k]? = some P[k]:=List.getElem?_eq_getElem hlt;have hg:=encS_at hx;have h1:decide ((k:Int)<(P.length:Int))=true:=decide_eq_true (by omega);have h2:(k:Int)<(P.length:Int):=by omega
    have w1:IntKind.i64.wrap ((k:Int)+1)=k+1:=wrap_i64 (by omega) (by omega);have htk:=List.take_add_one (l:=P) (i:=k);have hmem:P[k]∈P:=List.getElem_mem hlt;rw [hx] at htk;generalize P[k]=x at hx hg htk hmem
    repeat' (first|simp only [*,go_sem,Nat.reduceLT,Nat.reduceLeDiff,Nat.reduceEqDiff,↓reduceIte,Nat.reduceAdd,Nat.reduceBEq,]|with_reducible refine aR (fun _=>?_) (fun _=>?_)|((with_reducible refine And.intro ?_ ?_);((first|omega|decide))))
    ·rename_i hb;have:(P.all fun y=>!decide ((24:Int)<y.length))=false:=by
      rw [List.all_eq_false];exact ⟨x,hmem,by rw [hb];decide⟩
     rw [this];exact ⟨.inr ⟨_,rfl⟩,rfl⟩
    ·rename_i hb hn;have hn':x≠[]:=by simpa using hn
     exact zK (k+1,out++[x]) 0 2 ⟨by omega,by rw [htk];simp [hal,hb],by rw [htk,List.filter_append,hfo];simp [hn']⟩ (by simp only;omega) rfl rfl (aJ rfl rfl rfl (by simp [aH,aN,aD,aL,aG,zBF,WC,zBD,]))
    ·rename_i hb hn;have hn':x=[]:=by simpa using hn
     exact jC (k+1,out) ⟨by omega,by rw [htk];simp [hal,hb],by rw [htk,List.filter_append,hfo];simp [hn']⟩ (by simp only;omega) (aJ rfl rfl rfl (by simp [aH,aN,aD,aL,aG,]))
   ·have h1:decide ((k:Int)<(P.length:Int))=false:=decide_eq_false (by omega);rw [List.take_of_length_le (by omega)] at hal hfo;rw [hal,if_pos rfl,hfo]
    repeat' (simp only [*,go_sem,Nat.reduceLT,Nat.reduceEqDiff,↓reduceIte,])
    all_goals first|exact .inl rfl|rw [List.take_of_length_le (by omega)]
 ·rw [if_pos (by rfl)];refine ent aC aK Tryz.func172 rfl rfl fun X0 hX=>?_;simp only [Tryz.f172,go_sem]
  repeat' (simp only [*,go_sem,Nat.reduceLT,Nat.reduceEqDiff,↓reduceIte,])
  all_goals exact .inr ⟨_,rfl⟩
end Go.Proofs.YtlbfnbldeefgmaaGreatDoor
end
section
namespace Go.Dm
open Go
theorem zKl {P:Program} {f:FuncId} {h:aB} {i:Nat} {c0 c1:List CV} {x y:PV} {r:DV} {K:DV→aB→Prop}
  (hc:aA P f [.c (.ptr 0 0),.c (.p x),.c (.p y)] [.box c0] fun d h'=>d=r∧h'=[.box c1])
  (h0:h[i]? = some (.box c0)) (hd:(c0.all BC && (c1.all BC && XJ r))=true) (hk:K r (h.set i (.box c1))):
  aA P f [.c (.ptr i 0),.c (.p x),.c (.p y)] h K:=aA.box (ps:=[x,y]) hc h0 hd hk
end Go.Dm
end
section
namespace Go.Proofs.YtlbfnbldeefgmaaGreatDoor
open Go Go.Dm Go.Proofs
set_option maxRecDepth 100000
set_option maxHeartbeats 8000000
abbrev zJo (t:List It) (c:List UInt8) (ps:List (List UInt8)) (hops:Nat):DB:=.box [.p (.sl 5 (aZ t)),.p (.s c),.p (.sl 1 (Go.Dm.encS ps)),.p (.i .i64 hops)]
theorem zB6 {t:List It} {c:List UInt8} {ps:List (List UInt8)} {hops:Nat} {d:List UInt8} (hd:d.length≤1000000) (hps:ps.length≤50000) (hh:hops≤1000):
  aA Tryz.prog 236 [.c (.ptr 0 0),.c (.p (.sl 1 (bW d)))] [zJo t c ps hops] fun r h=>r=.c (.p (.i .i64 (zJA d hops)))∧h=[zJo t (zJz d hops c) (zJB d hops ps) (hops+1)]:=by
 have w1:IntKind.i64.wrap ((hops:Int)+1)=((hops+1:Nat):Int):=by rw [wrap_i64 (by omega) (by omega)];omega
 have hsp:=vY (s:=d) (by omega);have hle:=rS (s:=d);unfold zJA zJz zJB;cases q0:decide (8≤hops)
 ·have h1:decide ((8:Int)<((hops+1:Nat):Int))=false:=decide_eq_false (by simp at q0;omega);generalize eT d=S at hsp hle ⊢;obtain ⟨more,e⟩:=S;simp only at hsp hle ⊢;cases q1:(e == 0)
  ·have q2:(e != 0)=true:=by rw [bne,q1];rfl
   refine ent aC aK Tryz.func236 rfl rfl fun X0 hX=>?_;simp only [Tryz.f236,go_sem]
   repeat' (first|simp only [*,go_sem,Nat.reduceLT,Nat.reduceLeDiff,Nat.reduceEqDiff,↓reduceIte,Nat.reduceAdd,]|((with_reducible refine cH (hsp) ?_ ?_ ?_);exact rfl;exact fun _=>rfl))
  ·have he:e=0:=eq_of_beq q1;subst he;have hcc:=XG (a:=more) (b:=ps) (by omega) (by omega);cases d with
   | nil =>
    refine ent aC aK Tryz.func236 rfl rfl fun X0 hX=>?_;simp only [Tryz.f236,go_sem]
    repeat' (first|simp only [*,go_sem,Nat.reduceLT,Nat.reduceLeDiff,Nat.reduceEqDiff,↓reduceIte,Nat.reduceAdd,Int.reduceLT,bne_self_eq_false,tY]|((with_reducible refine cH (hsp) ?_ ?_ ?_);exact rfl;exact fun _=>rfl)|((with_reducible refine cH (hcc) ?_ ?_ ?_);exact rfl;exact fun _=>rfl)|((with_reducible apply aA.frz);exact rfl;exact rfl)|((with_reducible refine And.intro ?_ ?_);decide))
    all_goals rfl
   | cons b d =>
    have hg:(bW (b::d)).getD 0 []=[.i .u8 b.toNat]:=rfl;have h2:decide ((0:Int)<((d.length+1:Nat):Int))=true:=decide_eq_true (by omega);have h3:(0:Int)<((d.length+1:Nat):Int):=by omega
    cases hb:((b.toNat:Int) == 47)
    ·
     refine ent aC aK Tryz.func236 rfl rfl fun X0 hX=>?_;simp only [Tryz.f236,go_sem]
     repeat' (first|simp only [*,go_sem,Nat.reduceLT,Nat.reduceLeDiff,Nat.reduceEqDiff,↓reduceIte,Nat.reduceAdd,Int.reduceLE,Int.reduceToNat,bne_self_eq_false]|((with_reducible refine cH (hsp) ?_ ?_ ?_);exact rfl;exact fun _=>rfl)|((with_reducible refine cH (hcc) ?_ ?_ ?_);exact rfl;exact fun _=>rfl)|((with_reducible apply aA.frz);exact rfl;exact rfl)|((with_reducible refine And.intro ?_ ?_);decide))
     all_goals (simp only [DG,hb];rfl)
    ·
     refine ent aC aK Tryz.func236 rfl rfl fun X0 hX=>?_;simp only [Tryz.f236,go_sem]
     repeat' (first|simp only [*,go_sem,Nat.reduceLT,Nat.reduceLeDiff,Nat.reduceEqDiff,↓reduceIte,Nat.reduceAdd,Int.reduceLE,Int.reduceToNat,bne_self_eq_false]|((with_reducible refine cH (hsp) ?_ ?_ ?_);exact rfl;exact fun _=>rfl)|((with_reducible refine cH (hcc) ?_ ?_ ?_);exact rfl;exact fun _=>rfl)|((with_reducible apply aA.frz);exact rfl;exact rfl)|((with_reducible refine And.intro ?_ ?_);decide))
     all_goals (simp only [DG,hb];rfl)
 ·have h1:decide ((8:Int)<((hops+1:Nat):Int))=true:=decide_eq_true (by simp at q0;omega);refine ent aC aK Tryz.func236 rfl rfl fun X0 hX=>?_;simp only [Tryz.f236,go_sem]
  repeat' (simp only [*,go_sem,Nat.reduceLT,Nat.reduceLeDiff,Nat.reduceEqDiff,↓reduceIte,Nat.reduceAdd,])
theorem zIl {t:List It} {c s:List UInt8} {ps:List (List UInt8)} {hops:Nat} {fo:Bool} (h:OkT t) (hc:c.length≤1000) (hs:s.length≤1000) (hps:ps.length≤50000) (hh:hops≤1000):
  aA Tryz.prog 174 [.c (.ptr 0 0),.c (.p (.s s)),.c (.p (.b fo))] [zJo t c ps hops] fun r h =>
   r=.tup [.c (.p (.b (rA t fo c s ps hops).1.1)),.c (.p (.i .i64 (rA t fo c s ps hops).1.2))]∧h=[zJo t (rA t fo c s ps hops).2.1 (rA t fo c s ps hops).2.2.1 (rA t fo c s ps hops).2.2.2]:=by
 have hj:=SR (d:=c) (s:=s) (by omega) (by omega);have htl:=h.len;have hdir:=eG (t:=t) (p:=c) (by omega) h.srt;have hget:=jY (t:=t) (p:=iE c s) (by omega) h.srt h.ne fun x hx=>Nat.le_trans (h.dlen x hx) (by decide);have hgl:=h.getd (iE c s);have hnil:(ps == [])=true∨(ps == [])=false:=by cases (ps == []) <;> simp
 have hpd:decide ((0:Int)<(ps.length:Int)) = !(ps == []):=by
  cases ps with
  | nil=>rfl
  | cons p l=>exact decide_eq_true (by simp only [List.length_cons];omega)
 unfold rA;have hjl:(iE c s).length≤2001:=by
  unfold iE;split
  ·omega
  ·simp only [List.length_append,List.length_cons];omega
 generalize iE c s=q at hj hget hgl hjl ⊢;generalize (ps == [])=pz at hnil hpd ⊢;cases q0:aU t c
 ·rw [q0] at hdir;refine ent aC aK Tryz.func174 rfl rfl fun X0 hX=>?_;simp only [Tryz.f174,go_sem]
  repeat' (first|simp only [*,go_sem,Nat.reduceLT,Nat.reduceEqDiff,↓reduceIte,Nat.reduceAdd,]|((with_reducible refine aQ (hj) ?_ ?_ ?_);exact rfl;exact rfl)|((refine aO (id:=2) aC aK [] [0,1,2,3,4,5,6,7,8,9,10] (by decide +kernel) ?_);(repeat' (first|(refine bC ?_)|((refine dF ?_ rfl rfl ?_ ?_);(rotate_left 1);(focus ((repeat' (first|simp only [*,go_sem,Nat.reduceLT,Nat.reduceEqDiff,↓reduceIte,Bool.not_false]|((with_reducible refine aQ (hdir) ?_ ?_ ?_);exact rfl;exact rfl)));exact rfl));(simp only [aF]))))))
 ·rw [q0] at hdir;cases q1:decide ((120:Int)<(q.length:Int))
  ·cases hg:aW t q with
   | none =>
    rw [hg] at hget;simp only [Option.getD_none,Option.isSome_none,nd0] at hget;cases pz
    ·
     refine ent aC aK Tryz.func174 rfl rfl fun X0 hX=>?_;simp only [Tryz.f174,go_sem]
     repeat' (first|simp only [*,go_sem,Nat.reduceLT,Nat.reduceLeDiff,Nat.reduceEqDiff,↓reduceIte,Nat.reduceAdd,Bool.not_false]|((with_reducible refine aQ (hj) ?_ ?_ ?_);exact rfl;exact rfl)|((refine aO (id:=2) aC aK [] [0,1,2,3,4,5,6,7,8,9,10] (by decide +kernel) ?_);(repeat' (first|(refine bC ?_)|((refine dF ?_ rfl rfl ?_ ?_);(rotate_left 1);(focus ((repeat' (first|simp only [*,go_sem,Nat.reduceLT,Nat.reduceEqDiff,↓reduceIte,Bool.not_true]|((with_reducible refine aQ (hdir) ?_ ?_ ?_);exact rfl;exact rfl)));exact rfl));(simp only [aF])))))|((with_reducible refine cH (hget) ?_ ?_ ?_);exact rfl;exact fun _=>rfl))
    ·
     refine ent aC aK Tryz.func174 rfl rfl fun X0 hX=>?_;simp only [Tryz.f174,go_sem]
     repeat' (first|simp only [*,go_sem,Nat.reduceLT,Nat.reduceLeDiff,Nat.reduceEqDiff,↓reduceIte,Nat.reduceAdd,Bool.not_false,Bool.not_true]|((with_reducible refine aQ (hj) ?_ ?_ ?_);exact rfl;exact rfl)|((refine aO (id:=2) aC aK [] [0,1,2,3,4,5,6,7,8,9,10] (by decide +kernel) ?_);(repeat' (first|(refine bC ?_)|((refine dF ?_ rfl rfl ?_ ?_);(rotate_left 1);(focus ((repeat' (first|simp only [*,go_sem,Nat.reduceLT,Nat.reduceEqDiff,↓reduceIte,Bool.not_true]|((with_reducible refine aQ (hdir) ?_ ?_ ?_);exact rfl;exact rfl)));exact rfl));(simp only [aF])))))|((with_reducible refine cH (hget) ?_ ?_ ?_);exact rfl;exact fun _=>rfl))
   | some n =>
    rw [hg] at hget hgl;simp only [Option.getD_some,Option.isSome_some] at hget hgl;have hth:=zB6 (t:=t) (c:=c) (ps:=ps) (hops:=hops) (d:=n.d) (by omega) hps hh;obtain ⟨k,m,tt,d⟩:=n;cases hk:(k == 3)
    ·
     refine ent aC aK Tryz.func174 rfl rfl fun X0 hX=>?_;simp only [Tryz.f174,go_sem]
     repeat' (first|simp only [*,go_sem,Nat.reduceLT,Nat.reduceLeDiff,Nat.reduceEqDiff,↓reduceIte,Nat.reduceAdd,Bool.not_true]|((with_reducible refine aQ (hj) ?_ ?_ ?_);exact rfl;exact rfl)|((refine aO (id:=2) aC aK [] [0,1,2,3,4,5,6,7,8,9,10] (by decide +kernel) ?_);(repeat' (first|(refine bC ?_)|((refine dF ?_ rfl rfl ?_ ?_);(rotate_left 1);(focus ((repeat' (first|simp only [*,go_sem,Nat.reduceLT,Nat.reduceEqDiff,↓reduceIte,Bool.not_true]|((with_reducible refine aQ (hdir) ?_ ?_ ?_);exact rfl;exact rfl)));exact rfl));(simp only [aF])))))|((with_reducible refine cH (hget) ?_ ?_ ?_);exact rfl;exact fun _=>rfl))
    ·cases pz
     ·
      refine ent aC aK Tryz.func174 rfl rfl fun X0 hX=>?_;simp only [Tryz.f174,go_sem]
      repeat' (first|simp only [*,go_sem,Nat.reduceLT,Nat.reduceLeDiff,Nat.reduceEqDiff,↓reduceIte,Nat.reduceAdd,Bool.not_false,Bool.not_true]|((with_reducible refine aQ (hj) ?_ ?_ ?_);exact rfl;exact rfl)|((refine aO (id:=2) aC aK [] [0,1,2,3,4,5,6,7,8,9,10] (by decide +kernel) ?_);(repeat' (first|(refine bC ?_)|((refine dF ?_ rfl rfl ?_ ?_);(rotate_left 1);(focus ((repeat' (first|simp only [*,go_sem,Nat.reduceLT,Nat.reduceEqDiff,↓reduceIte,Bool.not_true]|((with_reducible refine aQ (hdir) ?_ ?_ ?_);exact rfl;exact rfl)));exact rfl));(simp only [aF])))))|((with_reducible refine cH (hget) ?_ ?_ ?_);exact rfl;exact fun _=>rfl)|((with_reducible refine zI8 (hth) ?_ ?_ ?_);exact rfl;exact rfl))
     ·cases fo
      ·
       refine ent aC aK Tryz.func174 rfl rfl fun X0 hX=>?_;simp only [Tryz.f174,go_sem]
       repeat' (first|simp only [*,go_sem,Nat.reduceLT,Nat.reduceLeDiff,Nat.reduceEqDiff,↓reduceIte,Nat.reduceAdd,Bool.not_true]|((with_reducible refine aQ (hj) ?_ ?_ ?_);exact rfl;exact rfl)|((refine aO (id:=2) aC aK [] [0,1,2,3,4,5,6,7,8,9,10] (by decide +kernel) ?_);(repeat' (first|(refine bC ?_)|((refine dF ?_ rfl rfl ?_ ?_);(rotate_left 1);(focus ((repeat' (first|simp only [*,go_sem,Nat.reduceLT,Nat.reduceEqDiff,↓reduceIte,Bool.not_true]|((with_reducible refine aQ (hdir) ?_ ?_ ?_);exact rfl;exact rfl)));exact rfl));(simp only [aF])))))|((with_reducible refine cH (hget) ?_ ?_ ?_);exact rfl;exact fun _=>rfl))
      ·
       refine ent aC aK Tryz.func174 rfl rfl fun X0 hX=>?_;simp only [Tryz.f174,go_sem]
       repeat' (first|simp only [*,go_sem,Nat.reduceLT,Nat.reduceLeDiff,Nat.reduceEqDiff,↓reduceIte,Nat.reduceAdd,Bool.not_true]|((with_reducible refine aQ (hj) ?_ ?_ ?_);exact rfl;exact rfl)|((refine aO (id:=2) aC aK [] [0,1,2,3,4,5,6,7,8,9,10] (by decide +kernel) ?_);(repeat' (first|(refine bC ?_)|((refine dF ?_ rfl rfl ?_ ?_);(rotate_left 1);(focus ((repeat' (first|simp only [*,go_sem,Nat.reduceLT,Nat.reduceEqDiff,↓reduceIte,Bool.not_true]|((with_reducible refine aQ (hdir) ?_ ?_ ?_);exact rfl;exact rfl)));exact rfl));(simp only [aF])))))|((with_reducible refine cH (hget) ?_ ?_ ?_);exact rfl;exact fun _=>rfl)|((with_reducible refine zI8 (hth) ?_ ?_ ?_);exact rfl;exact rfl))
  ·
   refine ent aC aK Tryz.func174 rfl rfl fun X0 hX=>?_;simp only [Tryz.f174,go_sem]
   repeat' (first|simp only [*,go_sem,Nat.reduceLT,Nat.reduceEqDiff,↓reduceIte,Nat.reduceAdd,]|((with_reducible refine aQ (hj) ?_ ?_ ?_);exact rfl;exact rfl)|((refine aO (id:=2) aC aK [] [0,1,2,3,4,5,6,7,8,9,10] (by decide +kernel) ?_);(repeat' (first|(refine bC ?_)|((refine dF ?_ rfl rfl ?_ ?_);(rotate_left 1);(focus ((repeat' (first|simp only [*,go_sem,Nat.reduceLT,Nat.reduceEqDiff,↓reduceIte,Bool.not_true]|((with_reducible refine aQ (hdir) ?_ ?_ ?_);exact rfl;exact rfl)));exact rfl));(simp only [aF]))))))
theorem zFV {t:List It} {s:List UInt8} {fo:Bool} (h:OkT t) (hs:s.length≤9223372036854775807):
  aA Tryz.prog 100 [.c (.p (.sl 5 (aZ t))),.c (.p (.s s)),.c (.p (.b fo))] [] fun r h=>r=.tup [.c (.p (.s (cF t s fo).1)),.c (.p (.b (cF t s fo).2.1)),.c (.p (.i .i64 (cF t s fo).2.2))]∧h=[]:=by
 have hsp:=vY (s:=s) hs;have hle:=rS (s:=s);have hme:=AE (s:=s);unfold cF;generalize eT s=S at hsp hle hme ⊢;obtain ⟨P,e⟩:=S;simp only at hsp hle hme ⊢;generalize hW:(if (e == 0)=true then lA t fo 1400 [] P 0 else ([],false,e))=W
 refine ent aC aK Tryz.func100 rfl rfl fun X0 hX=>?_;simp only [Tryz.f100,go_sem]
 repeat' (first|simp only [*,go_sem,Nat.reduceLT,Nat.reduceLeDiff,Nat.reduceEqDiff,↓reduceIte,Nat.reduceAdd,]|((with_reducible refine cH (hsp) ?_ ?_ ?_);exact rfl;exact fun _=>rfl))
 refine bQ aC aK (α:=Nat × List UInt8 × List (List UInt8) × Nat × Bool × Int) (fun x=>⟨75,[(2,.c (.p (.b fo))),(10,.c (.p (.i .i64 x.2.2.2.2.2))),(11,.c (.ptr 0 0)),(12,.c (.p (.b x.2.2.2.2.1)))],[zJo t x.2.1 x.2.2.1 x.2.2.2.1]⟩)
  (fun x=>WI t fo W x.1 x.2.1 x.2.2.1 x.2.2.2.1 x.2.2.2.2.1 x.2.2.2.2.2) (fun x=>x.1) (1400,[],P,0,true,e) ⟨by simp,hme,by simp,by simp,fun h0=>?_,fun h0=>?_⟩ (.inl (aJ (by rw [hX];rfl) rfl rfl (by simp [aH,aN,aD,aL,aG,]))) ?_
 ·subst h0;refine ⟨by simp,by simp only;omega,fun _=>⟨rfl,hW⟩,fun h0=>?_⟩
  subst h0;exact hW.symm
 ·rw [if_neg (by simpa using h0)] at hW;exact hW.symm
 rintro ⟨f,c,ps,hops,there,e⟩ hI;simp only at hI;clear hW hsp hle hme;cases q0:(e == 0)
 ·have he:e≠0:=by simpa using q0
  have hw:=hI.no he;rw [hw];have q1:(e != 0)=true:=by rw [bne,q0];rfl
  have hc:decide ((0:Int)<(ps.length:Int))=true∨decide ((0:Int)<(ps.length:Int))=false:=by cases decide ((0:Int)<(ps.length:Int)) <;> simp
  generalize decide ((0:Int)<(ps.length:Int))=b at hc
  repeat' (first|simp only [*,go_sem,Nat.reduceLT,Nat.reduceEqDiff,↓reduceIte,]|with_reducible refine cL (fun _=>?_) (fun _=>?_))
 ·have he:e=0:=eq_of_beq q0;subst he;cases ps with
  | nil =>
   obtain ⟨_,_,_,hw⟩:=hI.go rfl;rw [hw rfl]
   repeat' (simp only [*,go_sem,Nat.reduceLT,Nat.reduceEqDiff,↓reduceIte,Int.reduceLT,bne_self_eq_false])
  | cons p ps =>
   obtain ⟨k,rfl⟩:∃ k,f=k+1:=⟨f-1,by have:=(hI.go rfl).2.1;omega⟩
   have hfl:=hI.fl;obtain rfl:=hI.there_true;obtain ⟨hh8,hb,_,_⟩:=hI.go rfl;simp only [List.length_cons] at hb;have h1:decide ((0:Int)<((ps.length+1:Nat):Int))=true:=decide_eq_true (by omega);have h2:(0:Int)<((ps.length+1:Nat):Int):=by omega
   have h3:(1:Int)≤((ps.length+1:Nat):Int):=by omega
   have hg:(Go.Dm.encS (p::ps)).getD 0 []=[.s p]:=rfl;have hdr:(Go.Dm.encS (p::ps)).drop 1=Go.Dm.encS ps:=rfl;have hpl:=hI.pl p List.mem_cons_self;have hcl:=hI.cl;cases q1:(p == [46])
   ·cases q2:(p == [46,46])
    ·have hdn:=hI.down q1 q2;have hdc:=zIl (t:=t) (c:=c) (s:=p) (ps:=ps) (hops:=hops) (fo:=fo) h (by omega) (by omega) (by omega) (by omega);generalize rA t fo c p ps hops=D at hdn hdc;obtain ⟨⟨th,e'⟩,c',ps',h'⟩:=D;simp only at hdn hdc;clear hI
     repeat' (first|simp only [*,go_sem,Nat.reduceLT,Nat.reduceLeDiff,Nat.reduceEqDiff,↓reduceIte,Nat.reduceAdd,Int.reduceLE,Int.reduceToNat,beq_self_eq_true]|refine zKl hdc rfl rfl ?_|((with_reducible refine And.intro ?_ ?_);omega))
     exact jC (k,c',ps',h',th,e') hdn (by simp only;omega) (aJ rfl rfl rfl (by simp [aH,aN,aD,aL,aG,]))
    ·have hdt:=hI.dots q1 q2;clear hI
     repeat' (first|simp only [*,go_sem,Nat.reduceLT,Nat.reduceLeDiff,Nat.reduceEqDiff,↓reduceIte,Nat.reduceAdd,Int.reduceLE,Int.reduceToNat,beq_self_eq_true]|((with_reducible refine aQ (dQ (p:=c) (by omega)) ?_ ?_ ?_);exact rfl;exact rfl)|((with_reducible refine And.intro ?_ ?_);omega))
     exact jC (k,aP c,ps,hops,true,0) hdt (by simp only;omega) (aJ rfl rfl rfl (by simp [aH,aN,aD,aL,aG,]))
   ·have hdt:=hI.dot q1;clear hI
    repeat' (first|simp only [*,go_sem,Nat.reduceLT,Nat.reduceLeDiff,Nat.reduceEqDiff,↓reduceIte,Nat.reduceAdd,Int.reduceLE,Int.reduceToNat,beq_self_eq_true]|((with_reducible refine And.intro ?_ ?_);omega))
    exact jC (k,c,ps,hops,true,0) hdt (by simp only;omega) (aJ rfl rfl rfl (by simp [aH,aN,aD,aL,aG,]))
end Go.Proofs.YtlbfnbldeefgmaaGreatDoor
end
