/- Part 38 of the proof of roomKnown_card. No condition. -/
import Derived.Test.YtbpblnmhlhpebaaGreatDoorB36
set_option linter.all false
set_option maxRecDepth 100000
set_option maxHeartbeats 8000000
namespace Go.Proofs.YtbpblnmhlhpebaaGreatDoor
open Go Go.Dm Go.Proofs
section
abbrev zKN (t:List It) (c:List UInt8) (ps:List (List UInt8)) (hops:Nat):DB:=.box [.p (.sl 5 (aV t)),.p (.s c),.p (.sl 1 (Go.Dm.encS ps)),.p (.i .i64 hops)]
theorem zBB {t:List It} {c:List UInt8} {ps:List (List UInt8)} {hops:Nat} {d:List UInt8} (hd:d.length≤1000000) (hps:ps.length≤50000) (hh:hops≤1000):
  aA Tryz.prog 251 [.c (.ptr 0 0),.c (.p (.sl 1 (cB d)))] [zKN t c ps hops] fun r h=>r=.c (.p (.i .i64 (zLc d hops)))∧h=[zKN t (zLh d hops c) (zLf d hops ps) (hops+1)]:=by
 have w1:IntKind.i64.wrap ((hops:Int)+1)=((hops+1:Nat):Int):=by rw [wrap_i64 (by omega) (by omega)];omega
 have hsp:=wJ (s:=d) (by omega)
 have hle:=tP (s:=d)
 unfold zLc zLh zLf
 cases q0:decide (8≤hops)
 ·have h1:decide ((8:Int)<((hops+1:Nat):Int))=false:=decide_eq_false (by simp at q0;omega)
  generalize fG d=S at hsp hle ⊢
  obtain ⟨more,e⟩:=S
  simp only at hsp hle ⊢
  cases q1:(e == 0)
  ·have q2:(e != 0)=true:=by rw [bne,q1];rfl
   refine ent aB aK Tryz.func251 rfl rfl fun X0 hX=>?_
   simp only [Tryz.f251,go_sem]
   repeat' (first|simp only [*,go_sem,Nat.reduceLT,Nat.reduceLeDiff,Nat.reduceEqDiff,↓reduceIte,Nat.reduceAdd]|((with_reducible refine bP (hsp) ?_ ?_ ?_);exact rfl;exact fun _=>rfl))
  ·have he:e=0:=eq_of_beq q1
   subst he
   have hcc:=zDC (a:=more) (b:=ps) (by omega) (by omega)
   cases d with
   | nil =>
    refine ent aB aK Tryz.func251 rfl rfl fun X0 hX=>?_
    simp only [Tryz.f251,go_sem]
    repeat' (first|simp only [*,go_sem,Nat.reduceLT,Nat.reduceLeDiff,Nat.reduceEqDiff,↓reduceIte,Nat.reduceAdd,Int.reduceLT,bne_self_eq_false,yE]|((with_reducible refine bP (hsp) ?_ ?_ ?_);exact rfl;exact fun _=>rfl)|((with_reducible refine bP (hcc) ?_ ?_ ?_);exact rfl;exact fun _=>rfl)|((with_reducible apply aA.frz);exact rfl;exact rfl)|((with_reducible refine And.intro ?_ ?_);decide))
    all_goals rfl
   | cons b d =>
    have hg:(cB (b::d)).getD 0 []=[.i .u8 b.toNat]:=rfl
    have h2:decide ((0:Int)<((d.length+1:Nat):Int))=true:=decide_eq_true (by omega)
    have h3:(0:Int)<((d.length+1:Nat):Int):=by omega
    cases hb:((b.toNat:Int) == 47)
    ·
     refine ent aB aK Tryz.func251 rfl rfl fun X0 hX=>?_
     simp only [Tryz.f251,go_sem]
     repeat' (first|simp only [*,go_sem,Nat.reduceLT,Nat.reduceLeDiff,Nat.reduceEqDiff,↓reduceIte,Nat.reduceAdd,Int.reduceLE,Int.reduceToNat,bne_self_eq_false]|((with_reducible refine bP (hsp) ?_ ?_ ?_);exact rfl;exact fun _=>rfl)|((with_reducible refine bP (hcc) ?_ ?_ ?_);exact rfl;exact fun _=>rfl)|((with_reducible apply aA.frz);exact rfl;exact rfl)|((with_reducible refine And.intro ?_ ?_);decide))
     all_goals (simp only [GC,hb];rfl)
    ·
     refine ent aB aK Tryz.func251 rfl rfl fun X0 hX=>?_
     simp only [Tryz.f251,go_sem]
     repeat' (first|simp only [*,go_sem,Nat.reduceLT,Nat.reduceLeDiff,Nat.reduceEqDiff,↓reduceIte,Nat.reduceAdd,Int.reduceLE,Int.reduceToNat,bne_self_eq_false]|((with_reducible refine bP (hsp) ?_ ?_ ?_);exact rfl;exact fun _=>rfl)|((with_reducible refine bP (hcc) ?_ ?_ ?_);exact rfl;exact fun _=>rfl)|((with_reducible apply aA.frz);exact rfl;exact rfl)|((with_reducible refine And.intro ?_ ?_);decide))
     all_goals (simp only [GC,hb];rfl)
 ·have h1:decide ((8:Int)<((hops+1:Nat):Int))=true:=decide_eq_true (by simp at q0;omega)
  refine ent aB aK Tryz.func251 rfl rfl fun X0 hX=>?_
  simp only [Tryz.f251,go_sem]
  repeat' (simp only [*,go_sem,Nat.reduceLT,Nat.reduceLeDiff,Nat.reduceEqDiff,↓reduceIte,Nat.reduceAdd])
theorem zJV {t:List It} {c s:List UInt8} {ps:List (List UInt8)} {hops:Nat} {fo:Bool} (h:OkT t) (hc:c.length≤1000) (hs:s.length≤1000) (hps:ps.length≤50000) (hh:hops≤1000):
  aA Tryz.prog 184 [.c (.ptr 0 0),.c (.p (.s s)),.c (.p (.b fo))] [zKN t c ps hops] fun r h =>
   r=.tup [.c (.p (.b (tJ t fo c s ps hops).1.1)),.c (.p (.i .i64 (tJ t fo c s ps hops).1.2))]∧h=[zKN t (tJ t fo c s ps hops).2.1 (tJ t fo c s ps hops).2.2.1 (tJ t fo c s ps hops).2.2.2]:=by
 have hj:=YE (d:=c) (s:=s) (by omega) (by omega)
 have htl:=h.len
 have hdir:=eC (t:=t) (p:=c) (by omega) h.srt
 have hget:=eT (t:=t) (p:=jL c s) (by omega) h.srt h.ne fun x hx=>Nat.le_trans (h.dlen x hx) (by decide)
 have hgl:=h.getd (jL c s)
 have hnil:(ps == [])=true∨(ps == [])=false:=by cases (ps == []) <;> simp
 have hpd:decide ((0:Int)<(ps.length:Int)) = !(ps == []):=by
  cases ps with
  | nil=>rfl
  | cons p l=>exact decide_eq_true (by simp only [List.length_cons];omega)
 unfold tJ
 have hjl:(jL c s).length≤2001:=by
  unfold jL
  split
  ·omega
  ·simp only [List.length_append,List.length_cons];omega
 generalize jL c s=q at hj hget hgl hjl ⊢
 generalize (ps == [])=pz at hnil hpd ⊢
 cases q0:aY t c
 ·rw [q0] at hdir
  refine ent aB aK Tryz.func184 rfl rfl fun X0 hX=>?_
  simp only [Tryz.f184,go_sem]
  repeat' (first|simp only [*,go_sem,Nat.reduceLT,Nat.reduceEqDiff,↓reduceIte,Nat.reduceAdd]|((with_reducible refine aS (hj) ?_ ?_ ?_);exact rfl;exact rfl)|((refine aN (id:=2) aB aK [] [0,1,2,3,4,5,6,7,8,9,10] (by decide +kernel) ?_);(repeat' (first|(refine aW ?_)|((refine cD ?_ rfl rfl ?_ ?_);(rotate_left 1);(focus ((repeat' (first|simp only [*,go_sem,Nat.reduceLT,Nat.reduceEqDiff,↓reduceIte,Bool.not_false]|((with_reducible refine aS (hdir) ?_ ?_ ?_);exact rfl;exact rfl)));exact rfl));(simp only [aF]))))))
 ·rw [q0] at hdir
  cases q1:decide ((120:Int)<(q.length:Int))
  ·cases hg:aQ t q with
   | none =>
    rw [hg] at hget
    simp only [Option.getD_none,Option.isSome_none,nd0] at hget
    cases pz
    ·
     refine ent aB aK Tryz.func184 rfl rfl fun X0 hX=>?_
     simp only [Tryz.f184,go_sem]
     repeat' (first|simp only [*,go_sem,Nat.reduceLT,Nat.reduceLeDiff,Nat.reduceEqDiff,↓reduceIte,Nat.reduceAdd,Bool.not_false]|((with_reducible refine aS (hj) ?_ ?_ ?_);exact rfl;exact rfl)|((refine aN (id:=2) aB aK [] [0,1,2,3,4,5,6,7,8,9,10] (by decide +kernel) ?_);(repeat' (first|(refine aW ?_)|((refine cD ?_ rfl rfl ?_ ?_);(rotate_left 1);(focus ((repeat' (first|simp only [*,go_sem,Nat.reduceLT,Nat.reduceEqDiff,↓reduceIte,Bool.not_true]|((with_reducible refine aS (hdir) ?_ ?_ ?_);exact rfl;exact rfl)));exact rfl));(simp only [aF])))))|((with_reducible refine bP (hget) ?_ ?_ ?_);exact rfl;exact fun _=>rfl))
    ·
     refine ent aB aK Tryz.func184 rfl rfl fun X0 hX=>?_
     simp only [Tryz.f184,go_sem]
     repeat' (first|simp only [*,go_sem,Nat.reduceLT,Nat.reduceLeDiff,Nat.reduceEqDiff,↓reduceIte,Nat.reduceAdd,Bool.not_false,Bool.not_true]|((with_reducible refine aS (hj) ?_ ?_ ?_);exact rfl;exact rfl)|((refine aN (id:=2) aB aK [] [0,1,2,3,4,5,6,7,8,9,10] (by decide +kernel) ?_);(repeat' (first|(refine aW ?_)|((refine cD ?_ rfl rfl ?_ ?_);(rotate_left 1);(focus ((repeat' (first|simp only [*,go_sem,Nat.reduceLT,Nat.reduceEqDiff,↓reduceIte,Bool.not_true]|((with_reducible refine aS (hdir) ?_ ?_ ?_);exact rfl;exact rfl)));exact rfl));(simp only [aF])))))|((with_reducible refine bP (hget) ?_ ?_ ?_);exact rfl;exact fun _=>rfl))
   | some n =>
    rw [hg] at hget hgl
    simp only [Option.getD_some,Option.isSome_some] at hget hgl
    have hth:=zBB (t:=t) (c:=c) (ps:=ps) (hops:=hops) (d:=n.d) (by omega) hps hh
    obtain ⟨k,m,tt,d⟩:=n
    cases hk:(k == 3)
    ·
     refine ent aB aK Tryz.func184 rfl rfl fun X0 hX=>?_
     simp only [Tryz.f184,go_sem]
     repeat' (first|simp only [*,go_sem,Nat.reduceLT,Nat.reduceLeDiff,Nat.reduceEqDiff,↓reduceIte,Nat.reduceAdd,Bool.not_true]|((with_reducible refine aS (hj) ?_ ?_ ?_);exact rfl;exact rfl)|((refine aN (id:=2) aB aK [] [0,1,2,3,4,5,6,7,8,9,10] (by decide +kernel) ?_);(repeat' (first|(refine aW ?_)|((refine cD ?_ rfl rfl ?_ ?_);(rotate_left 1);(focus ((repeat' (first|simp only [*,go_sem,Nat.reduceLT,Nat.reduceEqDiff,↓reduceIte,Bool.not_true]|((with_reducible refine aS (hdir) ?_ ?_ ?_);exact rfl;exact rfl)));exact rfl));(simp only [aF])))))|((with_reducible refine bP (hget) ?_ ?_ ?_);exact rfl;exact fun _=>rfl))
    ·cases pz
     ·
      refine ent aB aK Tryz.func184 rfl rfl fun X0 hX=>?_
      simp only [Tryz.f184,go_sem]
      repeat' (first|simp only [*,go_sem,Nat.reduceLT,Nat.reduceLeDiff,Nat.reduceEqDiff,↓reduceIte,Nat.reduceAdd,Bool.not_false,Bool.not_true]|((with_reducible refine aS (hj) ?_ ?_ ?_);exact rfl;exact rfl)|((refine aN (id:=2) aB aK [] [0,1,2,3,4,5,6,7,8,9,10] (by decide +kernel) ?_);(repeat' (first|(refine aW ?_)|((refine cD ?_ rfl rfl ?_ ?_);(rotate_left 1);(focus ((repeat' (first|simp only [*,go_sem,Nat.reduceLT,Nat.reduceEqDiff,↓reduceIte,Bool.not_true]|((with_reducible refine aS (hdir) ?_ ?_ ?_);exact rfl;exact rfl)));exact rfl));(simp only [aF])))))|((with_reducible refine bP (hget) ?_ ?_ ?_);exact rfl;exact fun _=>rfl)|((with_reducible refine zKl (hth) ?_ ?_ ?_);exact rfl;exact rfl))
     ·cases fo
      ·
       refine ent aB aK Tryz.func184 rfl rfl fun X0 hX=>?_
       simp only [Tryz.f184,go_sem]
       repeat' (first|simp only [*,go_sem,Nat.reduceLT,Nat.reduceLeDiff,Nat.reduceEqDiff,↓reduceIte,Nat.reduceAdd,Bool.not_true]|((with_reducible refine aS (hj) ?_ ?_ ?_);exact rfl;exact rfl)|((refine aN (id:=2) aB aK [] [0,1,2,3,4,5,6,7,8,9,10] (by decide +kernel) ?_);(repeat' (first|(refine aW ?_)|((refine cD ?_ rfl rfl ?_ ?_);(rotate_left 1);(focus ((repeat' (first|simp only [*,go_sem,Nat.reduceLT,Nat.reduceEqDiff,↓reduceIte,Bool.not_true]|((with_reducible refine aS (hdir) ?_ ?_ ?_);exact rfl;exact rfl)));exact rfl));(simp only [aF])))))|((with_reducible refine bP (hget) ?_ ?_ ?_);exact rfl;exact fun _=>rfl))
      ·
       refine ent aB aK Tryz.func184 rfl rfl fun X0 hX=>?_
       simp only [Tryz.f184,go_sem]
       repeat' (first|simp only [*,go_sem,Nat.reduceLT,Nat.reduceLeDiff,Nat.reduceEqDiff,↓reduceIte,Nat.reduceAdd,Bool.not_true]|((with_reducible refine aS (hj) ?_ ?_ ?_);exact rfl;exact rfl)|((refine aN (id:=2) aB aK [] [0,1,2,3,4,5,6,7,8,9,10] (by decide +kernel) ?_);(repeat' (first|(refine aW ?_)|((refine cD ?_ rfl rfl ?_ ?_);(rotate_left 1);(focus ((repeat' (first|simp only [*,go_sem,Nat.reduceLT,Nat.reduceEqDiff,↓reduceIte,Bool.not_true]|((with_reducible refine aS (hdir) ?_ ?_ ?_);exact rfl;exact rfl)));exact rfl));(simp only [aF])))))|((with_reducible refine bP (hget) ?_ ?_ ?_);exact rfl;exact fun _=>rfl)|((with_reducible refine zKl (hth) ?_ ?_ ?_);exact rfl;exact rfl))
  ·
   refine ent aB aK Tryz.func184 rfl rfl fun X0 hX=>?_
   simp only [Tryz.f184,go_sem]
   repeat' (first|simp only [*,go_sem,Nat.reduceLT,Nat.reduceEqDiff,↓reduceIte,Nat.reduceAdd]|((with_reducible refine aS (hj) ?_ ?_ ?_);exact rfl;exact rfl)|((refine aN (id:=2) aB aK [] [0,1,2,3,4,5,6,7,8,9,10] (by decide +kernel) ?_);(repeat' (first|(refine aW ?_)|((refine cD ?_ rfl rfl ?_ ?_);(rotate_left 1);(focus ((repeat' (first|simp only [*,go_sem,Nat.reduceLT,Nat.reduceEqDiff,↓reduceIte,Bool.not_true]|((with_reducible refine aS (hdir) ?_ ?_ ?_);exact rfl;exact rfl)));exact rfl));(simp only [aF]))))))
theorem zHa {t:List It} {s:List UInt8} {fo:Bool} (h:OkT t) (hs:s.length≤9223372036854775807):
  aA Tryz.prog 119 [.c (.p (.sl 5 (aV t))),.c (.p (.s s)),.c (.p (.b fo))] [] fun r h=>r=.tup [.c (.p (.s (cM t s fo).1)),.c (.p (.b (cM t s fo).2.1)),.c (.p (.i .i64 (cM t s fo).2.2))]∧h=[]:=by
 have hsp:=wJ (s:=s) hs
 have hle:=tP (s:=s)
 have hme:=CJ (s:=s)
 unfold cM
 generalize fG s=S at hsp hle hme ⊢
 obtain ⟨P,e⟩:=S
 simp only at hsp hle hme ⊢
 generalize hW:(if (e == 0)=true then lN t fo 1400 [] P 0 else ([],false,e))=W
 refine ent aB aK Tryz.func119 rfl rfl fun X0 hX=>?_
 simp only [Tryz.f119,go_sem]
 repeat' (first|simp only [*,go_sem,Nat.reduceLT,Nat.reduceLeDiff,Nat.reduceEqDiff,↓reduceIte,Nat.reduceAdd]|((with_reducible refine bP (hsp) ?_ ?_ ?_);exact rfl;exact fun _=>rfl))
 refine bC aB aK (α:=Nat × List UInt8 × List (List UInt8) × Nat × Bool × Int) (fun x=>⟨75,[(2,.c (.p (.b fo))),(10,.c (.p (.i .i64 x.2.2.2.2.2))),(11,.c (.ptr 0 0)),(12,.c (.p (.b x.2.2.2.2.1)))],[zKN t x.2.1 x.2.2.1 x.2.2.2.1]⟩)
  (fun x=>WI t fo W x.1 x.2.1 x.2.2.1 x.2.2.2.1 x.2.2.2.2.1 x.2.2.2.2.2) (fun x=>x.1) (1400,[],P,0,true,e) ⟨by simp,hme,by simp,by simp,fun h0=>?_,fun h0=>?_⟩ (.inl (aJ (by rw [hX];rfl) rfl rfl (by simp [aI,aM,aD,aH,aG]))) ?_
 ·subst h0
  refine ⟨by simp,by simp only;omega,fun _=>⟨rfl,hW⟩,fun h0=>?_⟩
  subst h0
  exact hW.symm
 ·rw [if_neg (by simpa using h0)] at hW
  exact hW.symm
 rintro ⟨f,c,ps,hops,there,e⟩ hI
 simp only at hI
 clear hW hsp hle hme
 cases q0:(e == 0)
 ·have he:e≠0:=by simpa using q0
  have hw:=hI.no he
  rw [hw]
  have q1:(e != 0)=true:=by rw [bne,q0];rfl
  have hc:decide ((0:Int)<(ps.length:Int))=true∨decide ((0:Int)<(ps.length:Int))=false:=by cases decide ((0:Int)<(ps.length:Int)) <;> simp
  generalize decide ((0:Int)<(ps.length:Int))=b at hc
  repeat' (first|simp only [*,go_sem,Nat.reduceLT,Nat.reduceEqDiff,↓reduceIte]|with_reducible refine bR (fun _=>?_) (fun _=>?_))
 ·have he:e=0:=eq_of_beq q0
  subst he
  cases ps with
  | nil =>
   obtain ⟨_,_,_,hw⟩:=hI.go rfl
   rw [hw rfl]
   repeat' (simp only [*,go_sem,Nat.reduceLT,Nat.reduceEqDiff,↓reduceIte,Int.reduceLT,bne_self_eq_false])
  | cons p ps =>
   obtain ⟨k,rfl⟩:∃ k,f=k+1:=⟨f-1,by have:=(hI.go rfl).2.1;omega⟩
   have hfl:=hI.fl
   obtain rfl:=hI.there_true
   obtain ⟨hh8,hb,_,_⟩:=hI.go rfl
   simp only [List.length_cons] at hb
   have h1:decide ((0:Int)<((ps.length+1:Nat):Int))=true:=decide_eq_true (by omega)
   have h2:(0:Int)<((ps.length+1:Nat):Int):=by omega
   have h3:(1:Int)≤((ps.length+1:Nat):Int):=by omega
   have hg:(Go.Dm.encS (p::ps)).getD 0 []=[.s p]:=rfl
   have hdr:(Go.Dm.encS (p::ps)).drop 1=Go.Dm.encS ps:=rfl
   have hpl:=hI.pl p List.mem_cons_self
   have hcl:=hI.cl
   cases q1:(p == [46])
   ·cases q2:(p == [46,46])
    ·have hdn:=hI.down q1 q2
     have hdc:=zJV (t:=t) (c:=c) (s:=p) (ps:=ps) (hops:=hops) (fo:=fo) h (by omega) (by omega) (by omega) (by omega)
     generalize tJ t fo c p ps hops=D at hdn hdc
     obtain ⟨⟨th,e'⟩,c',ps',h'⟩:=D
     simp only at hdn hdc
     clear hI
     repeat' (first|simp only [*,go_sem,Nat.reduceLT,Nat.reduceLeDiff,Nat.reduceEqDiff,↓reduceIte,Nat.reduceAdd,Int.reduceLE,Int.reduceToNat,beq_self_eq_true]|refine zLs hdc rfl rfl ?_|((with_reducible refine And.intro ?_ ?_);omega))
     exact gL (k,c',ps',h',th,e') hdn (by simp only;omega) (aJ rfl rfl rfl (by simp [aI,aM,aD,aH,aG]))
    ·have hdt:=hI.dots q1 q2
     clear hI
     repeat' (first|simp only [*,go_sem,Nat.reduceLT,Nat.reduceLeDiff,Nat.reduceEqDiff,↓reduceIte,Nat.reduceAdd,Int.reduceLE,Int.reduceToNat,beq_self_eq_true]|((with_reducible refine aS (dJ (p:=c) (by omega)) ?_ ?_ ?_);exact rfl;exact rfl)|((with_reducible refine And.intro ?_ ?_);omega))
     exact gL (k,aR c,ps,hops,true,0) hdt (by simp only;omega) (aJ rfl rfl rfl (by simp [aI,aM,aD,aH,aG]))
   ·have hdt:=hI.dot q1
    clear hI
    repeat' (first|simp only [*,go_sem,Nat.reduceLT,Nat.reduceLeDiff,Nat.reduceEqDiff,↓reduceIte,Nat.reduceAdd,Int.reduceLE,Int.reduceToNat,beq_self_eq_true]|((with_reducible refine And.intro ?_ ?_);omega))
    exact gL (k,c,ps,hops,true,0) hdt (by simp only;omega) (aJ rfl rfl rfl (by simp [aI,aM,aD,aH,aG]))
end
section
def NA (a b:List UInt8) (t:List It) (k:Nat):List It:=(t.take k).map (qJ a b)++t.drop k
theorem zGe (a b:List UInt8) (t:List It) (k:Nat):(NA a b t k).length=t.length:=by
 simp only [NA,List.length_append,List.length_map,List.length_take,List.length_drop];omega
theorem zCv {a b:List UInt8} {t:List It} {k:Nat} {x:It} (hx:t[k]? = some x):(NA a b t k)[k]? = some x:=by
 have hk:=(List.getElem?_eq_some_iff.1 hx).1
 have hl:((t.take k).map (qJ a b)).length=k:=by rw [List.length_map,List.length_take];omega
 unfold NA
 rw [List.getElem?_append_right (by omega),hl,Nat.sub_self,List.getElem?_drop,Nat.add_zero]
 exact hx
theorem zGo {a b:List UInt8} {t:List It} {k:Nat} {x:It} (hx:t[k]? = some x):(NA a b t k).set k (qJ a b x)=NA a b t (k+1):=by
 have hk:=(List.getElem?_eq_some_iff.1 hx).1
 have hl:((t.take k).map (qJ a b)).length=k:=by rw [List.length_map,List.length_take];omega
 unfold NA
 rw [List.set_append_right _ _ (by omega),hl,Nat.sub_self,drop_at hx,List.set_cons_zero,List.take_add_one,hx,List.map_append]
 simp
theorem zCN {l:List (List PV)} {k:Nat} {e:List PV} (h:k<l.length):(l.set k e).getD k []=e:=by
 rw [List.getD_eq_getElem?_getD,List.getElem?_set_self h];rfl
theorem zKP {t:List It} {a b:List UInt8} (h:OkT t) (ha:a.length≤1000000000) (hb:b.length≤1000000000):
  aA Tryz.prog 259 [.c (.p (.sl 5 (aV t))),.c (.p (.s a)),.c (.p (.s b))] [] fun r h =>
   r=.tup [.c (.p (.sl 5 (aV (nE t a b).1))),.c (.p (.i .i64 (nE t a b).2))]∧h=[]:=by
 have htl:=h.len
 have hdl:∀ x∈t,x.n.d.length≤140737488355328:=fun x hx=>Nat.le_trans (h.dlen x hx) (by decide)
 have hmay:=zAH (t:=t) (a:=a) (b:=b) (by omega) h.srt ha hb
 refine aX ?_
 by_cases h0:zF2 t a b=0
 ·have hpre:a≠[]∧b≠[]∧cG b=true∧(aQ t b).isSome=false∧nE t a b=fF a b (bZ t a) t:=by
   unfold zF2 at h0
   unfold nE
   split at h0
   ·cases h0
   ·rename_i h1
    rw [if_neg h1]
    split at h0
    ·cases h0
    ·rename_i h2
     rw [if_neg h2]
     split at h0
     ·cases h0
     ·rename_i h3
      rw [if_neg h3]
      split at h0
      ·cases h0
      ·rename_i h4
       rw [if_neg h4]
       split at h0
       ·cases h0
       ·rename_i h5
        rw [if_neg h5]
        simp only [Bool.or_eq_true,not_or,beq_iff_eq,Bool.not_eq_true',Bool.not_eq_false] at h1
        exact ⟨h1.1.1.1,h1.1.1.2,h1.2,by simpa using h4,rfl⟩
  obtain ⟨p1,p2,p3,p4,p5⟩:=hpre
  rw [p5,zJh h p1 p2 p3 p4]
  have hnd:=xB h p1 p2 p4
  rw [h0] at hmay
  have hpl:=h.plen
  have hle0:t.length≤(aV t).length:=Nat.le_of_eq (cU t).symm
  clear p5 p2 p3 p4 h0
  have hR:∃ R,(if (GR t a b).all eM then (pK (GR t a b),0) else (([],12):List It × Int))=R:=⟨_,rfl⟩
  obtain ⟨R,hR⟩:=hR
  rw [hR]
  have hRP:=PLift.up hR
  clear hR
  refine ent aB aK Tryz.func259 rfl rfl fun X0 hX=>?_
  simp only [Tryz.f259,go_sem]
  repeat' (first|simp only [*,go_sem,Nat.reduceLT,Nat.reduceEqDiff,↓reduceIte,Nat.reduceAdd,bne_self_eq_false]|((with_reducible refine aS (hmay) ?_ ?_ ?_);exact rfl;exact rfl)|refine yO (by omega) hdl ?_)
  refine bC aB aK (α:=Nat) (fun k=>⟨60,[(1,.c (.p (.s a))),(2,.c (.p (.s b))),(9,.c (.own 0 0 t.length)),(21,.c (.own 0 0 t.length)),(22,.c (.p (.i .i64 t.length))),(23,.c (.p (.i .i64 k)))],[.arr 5 (aV (NA a b t k)) false]⟩)
   (fun k=>k≤t.length∧((t.take k).map (qJ a b)).all eM=true) (fun k=>t.length-k) 0 ⟨Nat.zero_le _,rfl⟩ (.inl (aJ (by rw [hX];rfl) rfl rfl (by simp [aI,aM,aD,aH,aG]))) ?_
  rintro k ⟨hk,hs⟩
  by_cases hlt:k<t.length
  ·have hx:t[k]? = some t[k]:=List.getElem?_eq_getElem hlt
   have hg:=cZ (zCv (a:=a) (b:=b) hx)
   have hst:=zGo (a:=a) (b:=b) hx
   have hml:=zGe a b t k
   have h1:decide ((k:Int)<(t.length:Int))=true:=decide_eq_true (by omega)
   have w1:IntKind.i64.wrap ((k:Int)+1)=k+1:=wrap_i64 (by omega) (by omega)
   have hxl:=hpl _ (List.getElem_mem hlt)
   have hnx:((t.take (k+1)).map (qJ a b)).all eM=eM (qJ a b t[k]):=by
    rw [List.take_add_one,hx,List.map_append,List.all_append,hs,Bool.true_and]
    simp
   have hbad:eM (qJ a b t[k])=false→(GR t a b).all eM=false:=fun hb=>by
    rw [Bool.eq_false_iff]
    intro h2
    have:=List.all_eq_true.1 h2 _ (List.mem_map_of_mem (f:=qJ a b) (List.getElem_mem hlt))
    rw [hb] at this;cases this
   generalize t[k]=x at hx hg hst hxl hnx hbad
   cases q1:(x.p == a) <;> cases q2:aP a x.p
   case false.false =>
    have hmi:qJ a b x=x:=by unfold qJ mvd;rw [q1,q2];rfl
    have hsx:eM x=true:=by
     simp only [eM,Bool.not_eq_true',decide_eq_false_iff_not];omega
    have hx120:decide ((120:Int)<(x.p.length:Int))=false:=by simpa [eM] using hsx
    rw [hmi] at hst hnx
    have hst2:NA a b t k=NA a b t (k+1):=by
     rw [← hst]
     exact (List.ext_getElem? fun j=>by
      rw [List.getElem?_set]
      split
      ·rename_i e;subst e;rw [zCv hx];split
       ·rfl
       ·rename_i hh;rw [hml] at hh;exact absurd hlt hh
      ·rfl)
    have hJ:k+1≤t.length∧((t.take (k+1)).map (qJ a b)).all eM=true:=⟨by omega,by rw [hnx];exact hsx⟩
    have hS:=PLift.up hst2
    have hlr:k<(NA a b t k).length:=by omega
    clear hbad hmi hst hnx hx hst2 hml
    repeat' (first|simp only [*,go_sem,Nat.reduceLT,Nat.reduceLeDiff,Nat.reduceEqDiff,↓reduceIte,Nat.reduceAdd]|((with_reducible refine aS (cL ha) ?_ ?_ ?_);exact rfl;exact rfl)|((with_reducible refine And.intro ?_ ?_);omega))
    exact gL (k+1) hJ (by omega) (aJ rfl (by rw [hS.down];rfl) rfl (by simp [aI,aM,aD,aH,aG]))
   all_goals
    have hmi:qJ a b x=⟨b++x.p.drop a.length,x.n⟩:=by unfold qJ mvd;rw [q1,q2];rfl
    rw [hmi] at hst hnx hbad
    have hla:a.length≤x.p.length:=by
     first|(rw [eq_of_beq q1];exact Nat.le_refl _)|exact dW q2
    cases q3:eM ⟨b++x.p.drop a.length,x.n⟩
   all_goals have hlr:k<(NA a b t k).length:=by omega
   all_goals have hse:=qS (NA a b t k) k ⟨b++x.p.drop a.length,x.n⟩
   all_goals simp only at hse
   all_goals rw [hst] at hse
   all_goals have hS:=PLift.up hse
   all_goals have hlr2:k<(aV (NA a b t k)).length:=by rw [cU];exact hlr
   all_goals have hdp:b.length+(x.p.drop a.length).length≤9223372036854775807:=by rw [List.length_drop];omega
   all_goals have hki:(k:Int)<(t.length:Int):=by omega
   all_goals have hk0:(0:Int)≤(k:Int):=by omega
   all_goals have hq:decide ((120:Int)<((b.length+(x.p.drop a.length).length:Nat):Int)) = !(eM ⟨b++x.p.drop a.length,x.n⟩):=by unfold eM;rw [Bool.not_not,List.length_append]
   all_goals rw [q3] at hq hnx
   all_goals simp only [Bool.not_true,Bool.not_false] at hq
   case' false.true.false|true.false.false|true.true.false =>
    obtain rfl:(([],12):List It × Int)=R:=by rw [← hRP.down,hbad q3];rfl
    clear hbad hmi hst hnx hx hml hse
    repeat' (first|simp only [*,go_sem,Nat.reduceLT,Nat.reduceLeDiff,Nat.reduceEqDiff,↓reduceIte,Nat.reduceAdd,zCN hlr2,List.length_set,List.length_append]|((with_reducible refine aS (cL ha) ?_ ?_ ?_);exact rfl;exact rfl)|((with_reducible refine And.intro ?_ ?_);omega))
   case' false.true.true|true.false.true|true.true.true =>
    have hJ:k+1≤t.length∧((t.take (k+1)).map (qJ a b)).all eM=true:=⟨by omega,hnx⟩
    clear hbad hmi hst hnx hx hml hse
    repeat' (first|simp only [*,go_sem,Nat.reduceLT,Nat.reduceLeDiff,Nat.reduceEqDiff,↓reduceIte,Nat.reduceAdd,zCN hlr2,List.length_set,List.length_append]|((with_reducible refine aS (cL ha) ?_ ?_ ?_);exact rfl;exact rfl)|((with_reducible refine And.intro ?_ ?_);omega))
   all_goals first|exact .inr ⟨_,rfl⟩|exact gL (k+1) hJ (by omega) (aJ rfl (by rw [← hS.down];rfl) rfl (by simp [aI,aM,aD,aH,aG]))
  ·have h1:decide ((k:Int)<(t.length:Int))=false:=decide_eq_false (by omega)
   have hk2:k=t.length:=by omega
   subst hk2
   have hmt:NA a b t t.length=GR t a b:=by
    unfold NA GR
    rw [List.take_length,List.drop_length,List.append_nil]
   rw [List.take_length] at hs
   obtain rfl:(pK (GR t a b),(0:Int))=R:=by
    rw [← hRP.down]
    have:(GR t a b).all eM=true:=hs
    rw [this];rfl
   rw [hmt]
   have hml:(GR t a b).length=t.length:=List.length_map _
   have hu:=uH hnd
   rw [← hml]
   have hsl:(GR t a b).length<4611686018427387904:=by omega
   have hml2:=zBZ (GR t a b)
   clear hRP hs hnd hpl hmt hlt hml
   clear h1
   generalize GR t a b=q at hu hsl hml2 ⊢
   have h1:decide ((q.length:Int)<(q.length:Int))=false:=decide_eq_false (by omega)
   repeat' (first|simp only [*,go_sem,Nat.reduceLT,Nat.reduceEqDiff,↓reduceIte,List.set_cons_zero]|refine zJb (id:=0) (l:=q) hu hsl rfl ?_)
   all_goals rw [List.take_of_length_le (by rw [hml2];exact Nat.le_refl _)]
 ·have hne:(zF2 t a b == 0)=false:=by simpa using h0
  have hme:nE t a b=([],zF2 t a b):=by
   unfold zF2 at h0 ⊢
   unfold nE
   split
   ·rfl
   ·rename_i h1
    rw [if_neg h1] at h0
    split
    ·rfl
    ·rename_i h2
     rw [if_neg h2] at h0
     split
     ·rfl
     ·rename_i h3
      rw [if_neg h3] at h0
      split
      ·rfl
      ·rename_i h4
       rw [if_neg h4] at h0
       split
       ·rfl
       ·rename_i h5
        rw [if_neg h5] at h0
        exact absurd rfl h0
  rw [hme]
  have hne2:(zF2 t a b != 0)=true:=by rw [bne,hne];rfl
  generalize zF2 t a b=e at *
  clear hme
  refine ent aB aK Tryz.func259 rfl rfl fun X0 hX=>?_
  simp only [Tryz.f259,go_sem]
  repeat' (first|simp only [*,go_sem,Nat.reduceLT,Nat.reduceEqDiff,↓reduceIte,Nat.reduceAdd]|((with_reducible refine aS (hmay) ?_ ?_ ?_);exact rfl;exact rfl))
  all_goals exact .inr ⟨_,rfl⟩
end
end Go.Proofs.YtbpblnmhlhpebaaGreatDoor
