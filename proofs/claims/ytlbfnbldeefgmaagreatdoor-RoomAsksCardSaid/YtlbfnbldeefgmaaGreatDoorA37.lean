/- Part 38 of the proof of roomAsks_card, set without needless blanks. No condition. -/
import Derived.Test.YtlbfnbldeefgmaaGreatDoorA36
set_option linter.all false
section
namespace Go.Proofs.YtlbfnbldeefgmaaGreatDoor
open Go Go.Dm Go.Proofs
set_option maxRecDepth 100000
set_option maxHeartbeats 8000000
theorem NB {r:Rm} {i p q:Int} {f:Bool} {t:List It} (hr:OkR r) (ht:OkT t) (hp:OkT (treeR r p)):
  aA Tryz.prog 46 [.c (.ptr 0 0),.agg [.p (.i .i64 i),.p (.i .i64 p),.p (.i .i64 q),.p (.b f)],.c (.p (.sl 5 (aU t)))] (cB r) fun d h=>d=.tup []∧h=cB ⟨r.N,r.L,pZ r.E i (fX (treeR r p) t),r.x⟩:=by
 have htr:=nY (a:=p) hr;have hmk:=RG hp ht;unfold cB at htr;generalize treeR r p=w at htr hmk ⊢;clear hr hp;refine ent aB aK Tryz.func46 rfl rfl fun X0 hX=>?_;simp only [Tryz.f46,go_sem]
 repeat' (first|simp only [*,go_sem,Nat.reduceLT,↓reduceIte,Nat.reduceAdd,]|((refine aN (id:=1) aB aK [12] [0,1,2,3,4,5,6,7,8,9,10,11,12] (by decide +kernel) ?_);(repeat' (first|(refine aT ?_)|((refine cV ?_ ?_ rfl rfl rfl ?_ ?_);(rotate_left 2);(focus ((repeat' (simp only [*,go_sem,Nat.reduceEqDiff,↓reduceIte,]));((refine And.intro ?_ ?_ <;> exact rfl))));(simp only [bI]))|((refine cU ?_ rfl rfl rfl ?_ ?_);(rotate_left 1);(focus ((repeat' (first|exact bG|refine aZ ?_ ?_));(all_goals ((repeat' (first|simp only [*,go_sem,Nat.reduceLT,Nat.reduceEqDiff,↓reduceIte,Nat.reduceAdd,]|((with_reducible refine bW [0,1,2,3] (htr) ?_ ?_ ?_ ?_);exact rfl;exact rfl;(focus ((simp only [go_sem];done))))|((with_reducible refine kM (hmk) ?_ ?_ ?_);exact rfl;exact fun _=>rfl)));(try (exact rfl))))));(simp only [aG]))))))
end Go.Proofs.YtlbfnbldeefgmaaGreatDoor
end
section
namespace Go.Proofs
open Go.Shelf
def Tryz.growStr_ren:Go.Shelf.Ren:=⟨fun | 4=>353|n=>n,fun | 22=>31 | 25=>9 | 3=>3 | 4=>4 | 9=>9 | 20=>20 | 0=>0|n=>n,fun|n=>n⟩
theorem Tryz.growStr:Go.Proofs.Lays8.n4 Tryz.prog Tryz.growStr_ren:={
 mixed:=by kernel_rfl
 f4:=⟨Tryz.f353.name,by decide,Tryz.func353.trans (congrArg some (by kernel_rfl))⟩
 t0:=Tryz.underlying0
 a0:=Tryz.isAgg0
 z0:=Tryz.sizeOf0
 v0:=Tryz.zeroValue0
 t3:=Tryz.underlying3
 a3:=Tryz.isAgg3
 z3:=Tryz.sizeOf3
 v3:=Tryz.zeroValue3
 t4:=Tryz.underlying4
 a4:=Tryz.isAgg4
 z4:=Tryz.sizeOf4
 v4:=Tryz.zeroValue4
 t9:=Tryz.underlying9
 a9:=Tryz.isAgg9
 z9:=Tryz.sizeOf9
 v9:=Tryz.zeroValue9
 t20:=Tryz.underlying20
 a20:=Tryz.isAgg20
 z20:=Tryz.sizeOf20
 v20:=Tryz.zeroValue20
 t22:=Tryz.underlying31
 a22:=Tryz.isAgg31
 z22:=Tryz.sizeOf31
 v22:=Tryz.zeroValue31 }
def Tryz.growByte_ren:Go.Shelf.Ren:=⟨fun | 4=>297|n=>n,fun | 22=>28 | 25=>5 | 3=>3 | 4=>4 | 9=>9 | 20=>20 | 0=>0|n=>n,fun|n=>n⟩
theorem Tryz.growByte:Go.Proofs.Lays8.n4 Tryz.prog Tryz.growByte_ren:={
 mixed:=by kernel_rfl
 f4:=⟨Tryz.f297.name,by decide,Tryz.func297.trans (congrArg some (by kernel_rfl))⟩
 t0:=Tryz.underlying0
 a0:=Tryz.isAgg0
 z0:=Tryz.sizeOf0
 v0:=Tryz.zeroValue0
 t3:=Tryz.underlying3
 a3:=Tryz.isAgg3
 z3:=Tryz.sizeOf3
 v3:=Tryz.zeroValue3
 t4:=Tryz.underlying4
 a4:=Tryz.isAgg4
 z4:=Tryz.sizeOf4
 v4:=Tryz.zeroValue4
 t9:=Tryz.underlying9
 a9:=Tryz.isAgg9
 z9:=Tryz.sizeOf9
 v9:=Tryz.zeroValue9
 t20:=Tryz.underlying20
 a20:=Tryz.isAgg20
 z20:=Tryz.sizeOf20
 v20:=Tryz.zeroValue20
 t22:=Tryz.underlying28
 a22:=Tryz.isAgg28
 z22:=Tryz.sizeOf28
 v22:=Tryz.zeroValue28 }
end Go.Proofs
end
section
namespace Go.Proofs.YtlbfnbldeefgmaaGreatDoor
open Go Go.Dm Go.Proofs
set_option maxRecDepth 100000
set_option maxHeartbeats 4000000
theorem zCW {h:aC} {n:Nat} (hn:n≤1000000000):
  aA Tryz.prog 353 [.c (.p .nil),.c (.p (.i .i64 n))] h fun d h'=>d=.c (.own h.length 0 0)∧h'=h++[.arr 1 [] false]:=by
 have:=xJ (n:=n) (h:=h) (e:=9) aB (by rw [tab9];exact fun h=>by cases h) (by rw [tab9];decide) (enters Tryz.func353 rfl rfl)
  (fun w=>Any8.slices_Grow_room Tryz.growStr none 0 0 0 w (Nat.le_refl _) (by decide) (by decide) (Nat.le_refl _))
  (fun i0 z n w h1 h2 h3 h4 h5 h6=>by
   have:=Any8.slices_Grow_grow Tryz.growStr i0 z h1 h2 h3 none 0 0 n [] w (Nat.le_refl _) (by omega) (by simpa using h5) (by simpa using h6) (by simp) (fun _=>rfl) (fun a ha=>by cases ha)
   simp only [Nat.zero_add,Nat.sub_zero] at this;exact this)
  (by rw [tab9];simp only;omega) (by omega)
 rw [tab9] at this;exact this
theorem ZD {h:aC} {n:Nat} (hn:n≤1000000000):
  aA Tryz.prog 297 [.c (.p .nil),.c (.p (.i .i64 n))] h fun d h'=>d=.c (.own h.length 0 0)∧h'=h++[.arr 1 [] false]:=by
 have:=xJ (n:=n) (h:=h) (e:=5) aB (by rw [tab5];exact fun h=>by cases h) (by rw [tab5];decide) (enters Tryz.func297 rfl rfl)
  (fun w=>Any8.slices_Grow_room Tryz.growByte none 0 0 0 w (Nat.le_refl _) (by decide) (by decide) (Nat.le_refl _))
  (fun i0 z n w h1 h2 h3 h4 h5 h6=>by
   have:=Any8.slices_Grow_grow Tryz.growByte i0 z h1 h2 h3 none 0 0 n [] w (Nat.le_refl _) (by omega) (by simpa using h5) (by simpa using h6) (by simp) (fun _=>rfl) (fun a ha=>by cases ha)
   simp only [Nat.zero_add,Nat.sub_zero] at this;exact this)
  (by rw [tab5];simp only;omega) (by omega)
 rw [tab5] at this;exact this
theorem zCX {h:aC} {n:Nat} {K:DV→aC→Prop} (hn:n≤1000000000) (hk:K (.c (.own h.length 0 0)) (h++[.arr 1 [] false])):
  aA Tryz.prog 353 [.c (.p .nil),.c (.p (.i .i64 n))] h K:=(zCW hn).mono (by rintro _ _ ⟨rfl,rfl⟩;exact hk)
theorem ZE {h:aC} {n:Nat} {K:DV→aC→Prop} (hn:n≤1000000000) (hk:K (.c (.own h.length 0 0)) (h++[.arr 1 [] false])):
  aA Tryz.prog 297 [.c (.p .nil),.c (.p (.i .i64 n))] h K:=(ZD hn).mono (by rintro _ _ ⟨rfl,rfl⟩;exact hk)
theorem zBr {a b:List (List UInt8)} (ha:a.length≤100000) (hb:b.length≤100000):
  aA Tryz.prog 288 [.c (.p (.sl 1 [[.sl 1 (Go.Dm.encS a)],[.sl 1 (Go.Dm.encS b)]]))] [] fun r h=>r=.c (.p (.sl 1 (Go.Dm.encS (a++b))))∧h=[]:=by
 have w1:IntKind.i64.wrap ((a.length:Int))=a.length:=wrap_i64 (by omega) (by omega);have w2:IntKind.i64.wrap ((a.length:Int)+b.length)=((a.length+b.length:Nat):Int):=by rw [wrap_i64 (by omega) (by omega)];omega
 have h1:decide ((a.length:Int)<0)=false:=decide_eq_false (by omega);have h2:decide (((a.length+b.length:Nat):Int)<0)=false:=decide_eq_false (by omega);refine ent aB aK Tryz.func288 rfl rfl fun X0 hX=>?_;simp only [Tryz.f288,go_sem]
 repeat' (first|simp only [*,go_sem,Nat.reduceLT,Nat.reduceLeDiff,Nat.reduceEqDiff,↓reduceIte,Nat.reduceAdd,Int.reduceLT,Int.reduceLE,Int.reduceAdd,Int.reduceNeg,Int.reduceToNat,Int.zero_add]|refine fL aB aK 3 ?_|refine zCX (n:=a.length+b.length) (by omega) ?_|((with_reducible refine And.intro ?_ ?_);omega))
 all_goals rw [List.take_of_length_le (by simp)]
theorem ZR {d s:List UInt8} (hd:d.length≤1000000) (hs:s.length≤1000000):aA Tryz.prog 235 [.c (.p (.s d)),.c (.p (.s s))] [] fun r h=>r=.c (.p (.s (iS d s)))∧h=[]:=by
 unfold iS;refine ent aB aK Tryz.func235 rfl rfl fun X0 hX=>?_;simp only [Tryz.f235,go_sem]
 repeat' (first|exact ⟨⟩|refine sp ?_|with_reducible refine aO (fun _=>?_) (fun _=>?_)|((with_reducible refine And.intro ?_ ?_);omega))
 all_goals simp_all
theorem zH3 (s:List UInt8):(s.all fun b=>!(b == 0))=s.all fun b=>!((b.toNat:Int) == 0):=by
 congr 1;funext b
 congr 1
 rw [Bool.eq_iff_iff,beq_iff_eq,beq_iff_eq];constructor
 ·rintro rfl;rfl
 ·intro h;exact UInt8.toNat_inj.1 (by have:(0:UInt8).toNat=0:=rfl;omega)
theorem yS {s:List UInt8} (hs:s.length≤9223372036854775807):aA Tryz.prog 172 [.c (.p (.s s))] [] fun r h=>r=.tup [.c (.p (.sl 1 (Go.Dm.encS (eE s).1))),.c (.p (.i .i64 (eE s).2))]∧h=[]:=by
 have e0:decide (0≤Lib.indexByte s (Nat.toUInt8 0)) = !(s.all fun b=>!((b.toNat:Int) == 0)):=by
  have:=indexByte_none 0 s;rw [← zH3,← this,← decide_not];exact decide_eq_decide.2 (by rw [Int.not_lt];exact Iff.rfl)
 refine bK ?_;unfold eE;cases q0:decide ((120:Int)<s.length)
 ·rw [if_neg (by decide)];have q0':¬ (120:Int)<s.length:=of_decide_eq_false q0;generalize (s.all fun b=>!((b.toNat:Int) == 0))=q1 at e0 ⊢;cases q1
  ·
   rw [if_pos (by rfl)];refine ent aB aK Tryz.func172 rfl rfl fun X0 hX=>?_;simp only [Tryz.f172,go_sem]
   repeat' (first|exact ⟨⟩|refine sp ?_|refine uF (pO (by omega)) ?_)
   all_goals exact .inr ⟨_,rfl⟩
  ·rw [if_neg (by decide)];have hcl:(oK s).length≤s.length+1:=oJ s [];have hsp:=zEz (a:=s) (by omega);generalize oK s=P at hcl hsp ⊢;refine ent aB aK Tryz.func172 rfl rfl fun X0 hX=>?_;simp only [Tryz.f172,go_sem]
   repeat' (first|exact ⟨⟩|refine sp ?_|refine uF (pO (by omega)) ?_|refine uN (hsp) ?_)
   clear hsp e0;refine mB aB aK 4 1 rfl ?_;refine aY aB aK (α:=Nat × List (List UInt8)) (fun x=>⟨33,[(16,.c (.p (.sl 1 (Go.Dm.encS P)))),(17,.c (.p (.i .i64 P.length))),(18,.c (.p (.i .i64 x.1))),(4,.c (.own 0 0 x.2.length))],[.arr 1 (Go.Dm.encS x.2) false]⟩)
    (fun x=>x.1≤P.length∧((P.take x.1).all fun y=>!decide ((24:Int)<y.length))=true∧((P.take x.1).filter fun y=>!(y == []))=x.2) (fun x=>P.length-x.1) (0,[]) ⟨Nat.zero_le _,rfl,rfl⟩ (.inl (aI (by rw [hX];rfl) rfl rfl (by simp [aH,aL,aD,aJ,aF,lL]))) ?_
   rintro ⟨k,out⟩ ⟨hk,hal,hfo⟩;simp only at hk hal hfo;have hol:out.length≤k:=by rw [← hfo];exact Nat.le_trans (List.length_filter_le ..) (List.length_take_le ..)
   by_cases hlt:k<P.length
   ·have hx:P[k]? = some P[k]:=List.getElem?_eq_getElem hlt;have hg:=encS_at hx;have h1:decide ((k:Int)<(P.length:Int))=true:=decide_eq_true (by omega);have h2:(k:Int)<(P.length:Int):=by omega
    have w1:IntKind.i64.wrap ((k:Int)+1)=k+1:=wrap_i64 (by omega) (by omega);have htk:=List.take_add_one (l:=P) (i:=k);have hmem:P[k]∈P:=List.getElem_mem hlt;rw [hx] at htk;generalize P[k]=x at hx hg htk hmem
    repeat' (first|exact ⟨⟩|refine sp ?_|with_reducible refine aO (fun _=>?_) (fun _=>?_)|((with_reducible refine And.intro ?_ ?_);((first|omega|decide))))
    ·rename_i hb;have:(P.all fun y=>!decide ((24:Int)<y.length))=false:=by
      rw [List.all_eq_false];exact ⟨x,hmem,by rw [hb];decide⟩
     rw [this];exact ⟨.inr ⟨_,rfl⟩,rfl⟩
    ·rename_i hb hn;have hn':x≠[]:=by simpa using hn
     exact gV (k+1,out++[x]) 0 2 ⟨by omega,by rw [htk];simp [hal,hb],by rw [htk,List.filter_append,hfo];simp [hn']⟩ (by simp only;omega) rfl rfl (aI rfl rfl rfl (by simp [aH,aL,aD,aJ,aF,vB,tY,vA,]))
    ·rename_i hb hn;have hn':x=[]:=by simpa using hn
     exact fD (k+1,out) ⟨by omega,by rw [htk];simp [hal,hb],by rw [htk,List.filter_append,hfo];simp [hn']⟩ (by simp only;omega) (aI rfl rfl rfl (by simp [aH,aL,aD,aJ,aF,]))
   ·have h1:decide ((k:Int)<(P.length:Int))=false:=decide_eq_false (by omega);rw [List.take_of_length_le (by omega)] at hal hfo;rw [hal,if_pos rfl,hfo]
    repeat' (first|exact ⟨⟩|refine sp ?_)
    all_goals first|exact .inl rfl|rw [List.take_of_length_le (by omega)]
 ·rw [if_pos (by rfl)];refine ent aB aK Tryz.func172 rfl rfl fun X0 hX=>?_;simp only [Tryz.f172,go_sem]
  repeat' (first|exact ⟨⟩|refine sp ?_)
  all_goals exact .inr ⟨_,rfl⟩
end Go.Proofs.YtlbfnbldeefgmaaGreatDoor
end
section
namespace Go.Dm
open Go
theorem zNq {P:Program} {f:FuncId} {h:aC} {i:Nat} {c0 c1:List CV} {x y:PV} {r:DV} {K:DV→aC→Prop}
  (hc:aA P f [.c (.ptr 0 0),.c (.p x),.c (.p y)] [.box c0] fun d h'=>d=r∧h'=[.box c1])
  (h0:h[i]? = some (.box c0)) (hd:(c0.all EO && (c1.all EO && zBu r))=true) (hk:K r (h.set i (.box c1))):
  aA P f [.c (.ptr i 0),.c (.p x),.c (.p y)] h K:=aA.box (ps:=[x,y]) hc h0 hd hk
end Go.Dm
end
section
namespace Go.Proofs.YtlbfnbldeefgmaaGreatDoor
open Go Go.Dm Go.Proofs
set_option maxRecDepth 100000
set_option maxHeartbeats 8000000
abbrev zMq (t:List It) (c:List UInt8) (ps:List (List UInt8)) (hops:Nat):DB:=.box [.p (.sl 5 (aU t)),.p (.s c),.p (.sl 1 (Go.Dm.encS ps)),.p (.i .i64 hops)]
theorem zEK {t:List It} {c:List UInt8} {ps:List (List UInt8)} {hops:Nat} {d:List UInt8} (hd:d.length≤1000000) (hps:ps.length≤50000) (hh:hops≤1000):
  aA Tryz.prog 236 [.c (.ptr 0 0),.c (.p (.sl 1 (bO d)))] [zMq t c ps hops] fun r h=>r=.c (.p (.i .i64 (zMD d hops)))∧h=[zMq t (zMC d hops c) (zME d hops ps) (hops+1)]:=by
 have w1:IntKind.i64.wrap ((hops:Int)+1)=((hops+1:Nat):Int):=by rw [wrap_i64 (by omega) (by omega)];omega
 have hsp:=yS (s:=d) (by omega);have hle:=uD (s:=d);unfold zMD zMC zME;cases q0:decide (8≤hops)
 ·have h1:decide ((8:Int)<((hops+1:Nat):Int))=false:=decide_eq_false (by simp at q0;omega);generalize eE d=S at hsp hle ⊢;obtain ⟨more,e⟩:=S;simp only at hsp hle ⊢;cases q1:(e == 0)
  ·have q2:(e != 0)=true:=by rw [bne,q1];rfl
   refine ent aB aK Tryz.func236 rfl rfl fun X0 hX=>?_;simp only [Tryz.f236,go_sem]
   repeat' (first|exact ⟨⟩|refine sp ?_|refine uN (hsp) ?_)
  ·have he:e=0:=eq_of_beq q1;subst he;have hcc:=zBr (a:=more) (b:=ps) (by omega) (by omega);cases d with
   | nil =>
    refine ent aB aK Tryz.func236 rfl rfl fun X0 hX=>?_;simp only [Tryz.f236,go_sem]
    repeat' (first|simp only [*,go_sem,Nat.reduceLT,Nat.reduceLeDiff,Nat.reduceEqDiff,↓reduceIte,Nat.reduceAdd,Int.reduceLT,bne_self_eq_false,wT]|refine uN (hsp) ?_|refine uN (hcc) ?_|((with_reducible apply aA.frz);exact rfl;exact rfl)|((with_reducible refine And.intro ?_ ?_);decide))
    all_goals rfl
   | cons b d =>
    have hg:(bO (b::d)).getD 0 []=[.i .u8 b.toNat]:=rfl;have h2:decide ((0:Int)<((d.length+1:Nat):Int))=true:=decide_eq_true (by omega);have h3:(0:Int)<((d.length+1:Nat):Int):=by omega
    cases hb:((b.toNat:Int) == 47)
    ·
     refine ent aB aK Tryz.func236 rfl rfl fun X0 hX=>?_;simp only [Tryz.f236,go_sem]
     repeat' (first|exact ⟨⟩|refine sp ?_|refine uN (hsp) ?_|refine uN (hcc) ?_|((with_reducible apply aA.frz);exact rfl;exact rfl)|((with_reducible refine And.intro ?_ ?_);decide))
     all_goals (simp only [HC,hb];rfl)
    ·
     refine ent aB aK Tryz.func236 rfl rfl fun X0 hX=>?_;simp only [Tryz.f236,go_sem]
     repeat' (first|exact ⟨⟩|refine sp ?_|refine uN (hsp) ?_|refine uN (hcc) ?_|((with_reducible apply aA.frz);exact rfl;exact rfl)|((with_reducible refine And.intro ?_ ?_);decide))
     all_goals (simp only [HC,hb];rfl)
 ·have h1:decide ((8:Int)<((hops+1:Nat):Int))=true:=decide_eq_true (by simp at q0;omega);refine ent aB aK Tryz.func236 rfl rfl fun X0 hX=>?_;simp only [Tryz.f236,go_sem]
  repeat' (first|exact ⟨⟩|refine sp ?_)
theorem zLk {t:List It} {c s:List UInt8} {ps:List (List UInt8)} {hops:Nat} {fo:Bool} (h:OkT t) (hc:c.length≤1000) (hs:s.length≤1000) (hps:ps.length≤50000) (hh:hops≤1000):
  aA Tryz.prog 174 [.c (.ptr 0 0),.c (.p (.s s)),.c (.p (.b fo))] [zMq t c ps hops] fun r h =>
   r=.tup [.c (.p (.b (tE t fo c s ps hops).1.1)),.c (.p (.i .i64 (tE t fo c s ps hops).1.2))]∧h=[zMq t (tE t fo c s ps hops).2.1 (tE t fo c s ps hops).2.2.1 (tE t fo c s ps hops).2.2.2]:=by
 have hj:=ZR (d:=c) (s:=s) (by omega) (by omega);have htl:=h.len;have hdir:=eN (t:=t) (p:=c) (by omega) h.srt;have hget:=jL (t:=t) (p:=iS c s) (by omega) h.srt h.ne fun x hx=>Nat.le_trans (h.dlen x hx) (by decide);have hgl:=h.getd (iS c s);have hnil:(ps == [])=true∨(ps == [])=false:=by cases (ps == []) <;> simp
 have hpd:decide ((0:Int)<(ps.length:Int)) = !(ps == []):=by
  cases ps with
  | nil=>rfl
  | cons p l=>exact decide_eq_true (by simp only [List.length_cons];omega)
 unfold tE;have hjl:(iS c s).length≤2001:=by
  unfold iS;split
  ·omega
  ·simp only [List.length_append,List.length_cons];omega
 generalize iS c s=q at hj hget hgl hjl ⊢;generalize (ps == [])=pz at hnil hpd ⊢;cases q0:aV t c
 ·rw [q0] at hdir;refine ent aB aK Tryz.func174 rfl rfl fun X0 hX=>?_;simp only [Tryz.f174,go_sem]
  repeat' (first|exact ⟨⟩|refine sp ?_|refine uF (hj) ?_|((refine aN (id:=2) aB aK [] [0,1,2,3,4,5,6,7,8,9,10] (by decide +kernel) ?_);(repeat' (first|(refine aT ?_)|((refine bV ?_ rfl rfl ?_ ?_);(rotate_left 1);(focus ((repeat' (first|exact ⟨⟩|refine sq ?_|refine uF (hdir) ?_));exact rfl));(simp only [aG]))))))
 ·rw [q0] at hdir;cases q1:decide ((120:Int)<(q.length:Int))
  ·cases hg:aQ t q with
   | none =>
    rw [hg] at hget;simp only [Option.getD_none,Option.isSome_none,nd0] at hget;cases pz
    ·
     refine ent aB aK Tryz.func174 rfl rfl fun X0 hX=>?_;simp only [Tryz.f174,go_sem]
     repeat' (first|exact ⟨⟩|refine sq ?_|refine uF (hj) ?_|((refine aN (id:=2) aB aK [] [0,1,2,3,4,5,6,7,8,9,10] (by decide +kernel) ?_);(repeat' (first|(refine aT ?_)|((refine bV ?_ rfl rfl ?_ ?_);(rotate_left 1);(focus ((repeat' (first|exact ⟨⟩|refine sq ?_|refine uF (hdir) ?_));exact rfl));(simp only [aG])))))|refine uN (hget) ?_)
    ·
     refine ent aB aK Tryz.func174 rfl rfl fun X0 hX=>?_;simp only [Tryz.f174,go_sem]
     repeat' (first|exact ⟨⟩|refine sq ?_|refine uF (hj) ?_|((refine aN (id:=2) aB aK [] [0,1,2,3,4,5,6,7,8,9,10] (by decide +kernel) ?_);(repeat' (first|(refine aT ?_)|((refine bV ?_ rfl rfl ?_ ?_);(rotate_left 1);(focus ((repeat' (first|exact ⟨⟩|refine sq ?_|refine uF (hdir) ?_));exact rfl));(simp only [aG])))))|refine uN (hget) ?_)
   | some n =>
    rw [hg] at hget hgl;simp only [Option.getD_some,Option.isSome_some] at hget hgl;have hth:=zEK (t:=t) (c:=c) (ps:=ps) (hops:=hops) (d:=n.d) (by omega) hps hh;obtain ⟨k,m,tt,d⟩:=n;cases hk:(k == 3)
    ·
     refine ent aB aK Tryz.func174 rfl rfl fun X0 hX=>?_;simp only [Tryz.f174,go_sem]
     repeat' (first|exact ⟨⟩|refine sq ?_|refine uF (hj) ?_|((refine aN (id:=2) aB aK [] [0,1,2,3,4,5,6,7,8,9,10] (by decide +kernel) ?_);(repeat' (first|(refine aT ?_)|((refine bV ?_ rfl rfl ?_ ?_);(rotate_left 1);(focus ((repeat' (first|exact ⟨⟩|refine sq ?_|refine uF (hdir) ?_));exact rfl));(simp only [aG])))))|refine uN (hget) ?_)
    ·cases pz
     ·
      refine ent aB aK Tryz.func174 rfl rfl fun X0 hX=>?_;simp only [Tryz.f174,go_sem]
      repeat' (first|exact ⟨⟩|refine sq ?_|refine uF (hj) ?_|((refine aN (id:=2) aB aK [] [0,1,2,3,4,5,6,7,8,9,10] (by decide +kernel) ?_);(repeat' (first|(refine aT ?_)|((refine bV ?_ rfl rfl ?_ ?_);(rotate_left 1);(focus ((repeat' (first|exact ⟨⟩|refine sq ?_|refine uF (hdir) ?_));exact rfl));(simp only [aG])))))|refine uN (hget) ?_|((with_reducible refine zMa (hth) ?_ ?_ ?_);exact rfl;exact rfl))
     ·cases fo
      ·
       refine ent aB aK Tryz.func174 rfl rfl fun X0 hX=>?_;simp only [Tryz.f174,go_sem]
       repeat' (first|exact ⟨⟩|refine sq ?_|refine uF (hj) ?_|((refine aN (id:=2) aB aK [] [0,1,2,3,4,5,6,7,8,9,10] (by decide +kernel) ?_);(repeat' (first|(refine aT ?_)|((refine bV ?_ rfl rfl ?_ ?_);(rotate_left 1);(focus ((repeat' (first|exact ⟨⟩|refine sq ?_|refine uF (hdir) ?_));exact rfl));(simp only [aG])))))|refine uN (hget) ?_)
      ·
       refine ent aB aK Tryz.func174 rfl rfl fun X0 hX=>?_;simp only [Tryz.f174,go_sem]
       repeat' (first|exact ⟨⟩|refine sq ?_|refine uF (hj) ?_|((refine aN (id:=2) aB aK [] [0,1,2,3,4,5,6,7,8,9,10] (by decide +kernel) ?_);(repeat' (first|(refine aT ?_)|((refine bV ?_ rfl rfl ?_ ?_);(rotate_left 1);(focus ((repeat' (first|exact ⟨⟩|refine sq ?_|refine uF (hdir) ?_));exact rfl));(simp only [aG])))))|refine uN (hget) ?_|((with_reducible refine zMa (hth) ?_ ?_ ?_);exact rfl;exact rfl))
  ·
   refine ent aB aK Tryz.func174 rfl rfl fun X0 hX=>?_;simp only [Tryz.f174,go_sem]
   repeat' (first|exact ⟨⟩|refine sp ?_|refine uF (hj) ?_|((refine aN (id:=2) aB aK [] [0,1,2,3,4,5,6,7,8,9,10] (by decide +kernel) ?_);(repeat' (first|(refine aT ?_)|((refine bV ?_ rfl rfl ?_ ?_);(rotate_left 1);(focus ((repeat' (first|exact ⟨⟩|refine sq ?_|refine uF (hdir) ?_));exact rfl));(simp only [aG]))))))
theorem zIH {t:List It} {s:List UInt8} {fo:Bool} (h:OkT t) (hs:s.length≤9223372036854775807):
  aA Tryz.prog 100 [.c (.p (.sl 5 (aU t))),.c (.p (.s s)),.c (.p (.b fo))] [] fun r h=>r=.tup [.c (.p (.s (cF t s fo).1)),.c (.p (.b (cF t s fo).2.1)),.c (.p (.i .i64 (cF t s fo).2.2))]∧h=[]:=by
 have hsp:=yS (s:=s) hs;have hle:=uD (s:=s);have hme:=DJ (s:=s);unfold cF;generalize eE s=S at hsp hle hme ⊢;obtain ⟨P,e⟩:=S;simp only at hsp hle hme ⊢;generalize hW:(if (e == 0)=true then jM t fo 1400 [] P 0 else ([],false,e))=W
 refine ent aB aK Tryz.func100 rfl rfl fun X0 hX=>?_;simp only [Tryz.f100,go_sem]
 repeat' (first|exact ⟨⟩|refine sp ?_|refine uN (hsp) ?_)
 refine aY aB aK (α:=Nat × List UInt8 × List (List UInt8) × Nat × Bool × Int) (fun x=>⟨75,[(2,.c (.p (.b fo))),(10,.c (.p (.i .i64 x.2.2.2.2.2))),(11,.c (.ptr 0 0)),(12,.c (.p (.b x.2.2.2.2.1)))],[zMq t x.2.1 x.2.2.1 x.2.2.2.1]⟩)
  (fun x=>WI t fo W x.1 x.2.1 x.2.2.1 x.2.2.2.1 x.2.2.2.2.1 x.2.2.2.2.2) (fun x=>x.1) (1400,[],P,0,true,e) ⟨by simp,hme,by simp,by simp,fun h0=>?_,fun h0=>?_⟩ (.inl (aI (by rw [hX];rfl) rfl rfl (by simp [aH,aL,aD,aJ,aF,]))) ?_
 ·subst h0;refine ⟨by simp,by simp only;omega,fun _=>⟨rfl,hW⟩,fun h0=>?_⟩
  subst h0;exact hW.symm
 ·rw [if_neg (by simpa using h0)] at hW;exact hW.symm
 rintro ⟨f,c,ps,hops,there,e⟩ hI;simp only at hI;clear hW hsp hle hme;cases q0:(e == 0)
 ·have he:e≠0:=by simpa using q0
  have hw:=hI.no he;rw [hw];have q1:(e != 0)=true:=by rw [bne,q0];rfl
  have hc:decide ((0:Int)<(ps.length:Int))=true∨decide ((0:Int)<(ps.length:Int))=false:=by cases decide ((0:Int)<(ps.length:Int)) <;> simp
  generalize decide ((0:Int)<(ps.length:Int))=b at hc
  repeat' (first|exact ⟨⟩|refine sp ?_|with_reducible refine bF (fun _=>?_) (fun _=>?_))
 ·have he:e=0:=eq_of_beq q0;subst he;cases ps with
  | nil =>
   obtain ⟨_,_,_,hw⟩:=hI.go rfl;rw [hw rfl]
   repeat' (first|exact ⟨⟩|refine sp ?_)
  | cons p ps =>
   obtain ⟨k,rfl⟩:∃ k,f=k+1:=⟨f-1,by have:=(hI.go rfl).2.1;omega⟩
   have hfl:=hI.fl;obtain rfl:=hI.there_true;obtain ⟨hh8,hb,_,_⟩:=hI.go rfl;simp only [List.length_cons] at hb;have h1:decide ((0:Int)<((ps.length+1:Nat):Int))=true:=decide_eq_true (by omega);have h2:(0:Int)<((ps.length+1:Nat):Int):=by omega
   have h3:(1:Int)≤((ps.length+1:Nat):Int):=by omega
   have hg:(Go.Dm.encS (p::ps)).getD 0 []=[.s p]:=rfl;have hdr:(Go.Dm.encS (p::ps)).drop 1=Go.Dm.encS ps:=rfl;have hpl:=hI.pl p List.mem_cons_self;have hcl:=hI.cl;cases q1:(p == [46])
   ·cases q2:(p == [46,46])
    ·have hdn:=hI.down q1 q2;have hdc:=zLk (t:=t) (c:=c) (s:=p) (ps:=ps) (hops:=hops) (fo:=fo) h (by omega) (by omega) (by omega) (by omega);generalize tE t fo c p ps hops=D at hdn hdc;obtain ⟨⟨th,e'⟩,c',ps',h'⟩:=D;simp only at hdn hdc;clear hI
     repeat' (first|exact ⟨⟩|refine sp ?_|refine zNq hdc rfl rfl ?_|((with_reducible refine And.intro ?_ ?_);omega))
     exact fD (k,c',ps',h',th,e') hdn (by simp only;omega) (aI rfl rfl rfl (by simp [aH,aL,aD,aJ,aF,]))
    ·have hdt:=hI.dots q1 q2;clear hI
     repeat' (first|exact ⟨⟩|refine sp ?_|refine uF (dQ (p:=c) (by omega)) ?_|((with_reducible refine And.intro ?_ ?_);omega))
     exact fD (k,aR c,ps,hops,true,0) hdt (by simp only;omega) (aI rfl rfl rfl (by simp [aH,aL,aD,aJ,aF,]))
   ·have hdt:=hI.dot q1;clear hI
    repeat' (first|exact ⟨⟩|refine sp ?_|((with_reducible refine And.intro ?_ ?_);omega))
    exact fD (k,c,ps,hops,true,0) hdt (by simp only;omega) (aI rfl rfl rfl (by simp [aH,aL,aD,aJ,aF,]))
end Go.Proofs.YtlbfnbldeefgmaaGreatDoor
end
