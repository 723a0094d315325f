/- Part 26 of the proof of roomStays_card, set without needless blanks. No condition. -/
import Derived.Test.YtlbfnbldeefgmaaGreatDoorT24
set_option linter.all false
set_option maxRecDepth 100000
set_option maxHeartbeats 16000000
section
namespace Go.Proofs.YtlbfnbldeefgmaaGreatDoor
open Go Go.Dm Go.Proofs Go.Proofs.Tryz
abbrev zOU(t:List It)(c:List UInt8)(ps:List (List UInt8))(hops:Nat):DB:=.box [.p (.sl 5 (aQ t)),.p (.s c),.p (.sl 1 (Go.Dm.encS ps)),.p (.i .i64 hops)]
theorem zGo{t:List It}{c:List UInt8}{ps:List (List UInt8)}{hops:Nat}{d:List UInt8}(hd:d.length<=1000000)(hps:ps.length<=50000)(hh:hops<=1000):
  aA prog 236 [.c (.ptr 0 0),.c (.p (.sl 1 (bJ d)))] [zOU t c ps hops] λr h=>r=.c (.p (.i .i64 (zPb d hops)))/\h=[zOU t (zPa d hops c) (zPc d hops ps) (hops+1)]:=by
 have w1:IntKind.i64.wrap ((hops:Int)+1)=((hops+1:Nat):Int):=by rw[wrap_i64 (by omega) (by omega)];omega
 have hsp:=AU (s:=d) (by omega);have hle:=wA (s:=d);unfold zPb zPa zPc;cases q0:decide (8<=hops)
 .have h1:decide ((8:Int)<((hops+1:Nat):Int))=false:=decide_eq_false (by simp at q0;omega);generalize fX d=S at hsp hle ⊢;obtain⟨more,e⟩:=S;simp only at hsp hle ⊢;cases q1:(e==0)
  .have q2:(e != 0)=true:=by rw[bne,q1];rfl
   refine eT func236 λX0 hX=>?_;simp only[f236,go_sem]
   repeat' (first|exact⟨⟩|refine sp ?_|refine uN (hsp) ?_)
  .have he:e=0:=eq_of_beq q1;subst he;have hcc:=zCK (a:=more) (b:=ps) (by omega) (by omega);cases d with
   | nil =>
    refine eT func236 λX0 hX=>?_;simp only[f236,go_sem]
    repeat' (first|simp only[*,go_sem,Nat.reduceLT,Nat.reduceLeDiff,Nat.reduceEqDiff,↓reduceIte,Nat.reduceAdd,Int.reduceLT,bne_self_eq_false,yU]|refine uN (hsp) ?_|refine uN (hcc) ?_|((with_reducible apply aA.frz);exact rfl;exact rfl)|refine ai ?_)
    all_goals rfl
   | cons b d =>
    have hg:(bJ (b::d)).getD 0 []=[.i .u8 b.toNat]:=rfl;have h2:decide ((0:Int)<((d.length+1:Nat):Int))=true:=decide_eq_true (by omega);have h3:(0:Int)<((d.length+1:Nat):Int):=by omega
    cases hb:((b.toNat:Int)==47)
    ·
     refine eT func236 λX0 hX=>?_;simp only[f236,go_sem]
     repeat' (first|exact⟨⟩|refine sp ?_|refine uN (hsp) ?_|refine uN (hcc) ?_|((with_reducible apply aA.frz);exact rfl;exact rfl)|refine ai ?_)
     all_goals (simp only[KM,hb];rfl)
    ·
     refine eT func236 λX0 hX=>?_;simp only[f236,go_sem]
     repeat' (first|exact⟨⟩|refine sp ?_|refine uN (hsp) ?_|refine uN (hcc) ?_|((with_reducible apply aA.frz);exact rfl;exact rfl)|refine ai ?_)
     all_goals (simp only[KM,hb];rfl)
 .have h1:decide ((8:Int)<((hops+1:Nat):Int))=true:=decide_eq_true (by simp at q0;omega);refine eT func236 λX0 hX=>?_;simp only[f236,go_sem]
  repeat' (first|exact⟨⟩|refine sp ?_)
theorem zNE{t:List It}{c s:List UInt8}{ps:List (List UInt8)}{hops:Nat}{fo:Bool}(h:OkT t)(hc:c.length<=1000)(hs:s.length<=1000)(hps:ps.length<=50000)(hh:hops<=1000):
  aA prog 174 [.c (.ptr 0 0),.c (.p (.s s)),.c (.p (.b fo))] [zOU t c ps hops] λr h =>
   r=.tup [.c (.p (.b (vC t fo c s ps hops).1.1)),.c (.p (.i .i64 (vC t fo c s ps hops).1.2))]/\h=[zOU t (vC t fo c s ps hops).2.1 (vC t fo c s ps hops).2.2.1 (vC t fo c s ps hops).2.2.2]:=by
 have hj:=zA3 (d:=c) (s:=s) (by omega) (by omega);have htl:=h.len;have hdir:=eQ (t:=t) (p:=c) (by omega) h.srt;have hget:=eW (t:=t) (p:=kJ c s) (by omega) h.srt h.ne λx hx=>Nat.le_trans (h.dlen x hx) (by decide);have hgl:=h.getd (kJ c s);have hnil:(ps == [])=true∨(ps == [])=false:=by cases (ps == [])<;>simp
 have hpd:decide ((0:Int)<(ps.length:Int)) = !(ps == []):=by
  cases ps with
  | nil=>rfl
  | cons p l=>exact decide_eq_true (by simp only[List.length_cons];omega)
 unfold vC;have hjl:(kJ c s).length<=2001:=by
  unfold kJ;split
  .omega
  .simp only[List.length_append,List.length_cons];omega
 generalize kJ c s=q at hj hget hgl hjl ⊢;generalize (ps == [])=pz at hnil hpd ⊢;cases q0:aX t c
 .rw[q0] at hdir;refine eT func174 λX0 hX=>?_;simp only[f174,go_sem]
  repeat' (first|exact⟨⟩|refine sp ?_|refine uF (hj) ?_|((refine aG (id:=2) aD aL [] [0,1,2,3,4,5,6,7,8,9,10] (by decide +kernel) ?_);(repeat' (first|(refine aO ?_)|((refine bK ?_ rfl rfl ?_ ?_);(rotate_left 1);(focus ((repeat' (first|exact⟨⟩|refine sq ?_|refine uF (hdir) ?_));exact rfl));(simp only[aC]))))))
 .rw [q0] at hdir;cases q1:decide ((120:Int)<(q.length:Int))
  .cases hg:aN t q with
   | none =>
    rw[hg] at hget;simp only[Option.getD_none,Option.isSome_none,nd0] at hget;cases pz
    ·
     refine eT func174 λX0 hX=>?_;simp only[f174,go_sem]
     repeat' (first|exact⟨⟩|refine sq ?_|refine uF (hj) ?_|((refine aG (id:=2) aD aL [] [0,1,2,3,4,5,6,7,8,9,10] (by decide +kernel) ?_);(repeat' (first|(refine aO ?_)|((refine bK ?_ rfl rfl ?_ ?_);(rotate_left 1);(focus ((repeat' (first|exact⟨⟩|refine sq ?_|refine uF (hdir) ?_));exact rfl));(simp only[aC])))))|refine uN (hget) ?_)
    ·
     refine eT func174 λX0 hX=>?_;simp only[f174,go_sem]
     repeat' (first|exact⟨⟩|refine sq ?_|refine uF (hj) ?_|((refine aG (id:=2) aD aL [] [0,1,2,3,4,5,6,7,8,9,10] (by decide +kernel) ?_);(repeat' (first|(refine aO ?_)|((refine bK ?_ rfl rfl ?_ ?_);(rotate_left 1);(focus ((repeat' (first|exact⟨⟩|refine sq ?_|refine uF (hdir) ?_));exact rfl));(simp only[aC])))))|refine uN (hget) ?_)
   | some n =>
    rw[hg] at hget hgl;simp only[Option.getD_some,Option.isSome_some] at hget hgl;have hth:=zGo (t:=t) (c:=c) (ps:=ps) (hops:=hops) (d:=n.d) (by omega) hps hh;obtain⟨k,m,tt,d⟩:=n;cases hk:(k==3)
    ·
     refine eT func174 λX0 hX=>?_;simp only[f174,go_sem]
     repeat' (first|exact⟨⟩|refine sq ?_|refine uF (hj) ?_|((refine aG (id:=2) aD aL [] [0,1,2,3,4,5,6,7,8,9,10] (by decide +kernel) ?_);(repeat' (first|(refine aO ?_)|((refine bK ?_ rfl rfl ?_ ?_);(rotate_left 1);(focus ((repeat' (first|exact⟨⟩|refine sq ?_|refine uF (hdir) ?_));exact rfl));(simp only[aC])))))|refine uN (hget) ?_)
    .cases pz
     ·
      refine eT func174 λX0 hX=>?_;simp only[f174,go_sem]
      repeat' (first|exact⟨⟩|refine sq ?_|refine uF (hj) ?_|((refine aG (id:=2) aD aL [] [0,1,2,3,4,5,6,7,8,9,10] (by decide +kernel) ?_);(repeat' (first|(refine aO ?_)|((refine bK ?_ rfl rfl ?_ ?_);(rotate_left 1);(focus ((repeat' (first|exact⟨⟩|refine sq ?_|refine uF (hdir) ?_));exact rfl));(simp only[aC])))))|refine uN (hget) ?_|((with_reducible refine zOD (hth) ?_ ?_ ?_);exact rfl;exact rfl))
     .cases fo
      ·
       refine eT func174 λX0 hX=>?_;simp only[f174,go_sem]
       repeat' (first|exact⟨⟩|refine sq ?_|refine uF (hj) ?_|((refine aG (id:=2) aD aL [] [0,1,2,3,4,5,6,7,8,9,10] (by decide +kernel) ?_);(repeat' (first|(refine aO ?_)|((refine bK ?_ rfl rfl ?_ ?_);(rotate_left 1);(focus ((repeat' (first|exact⟨⟩|refine sq ?_|refine uF (hdir) ?_));exact rfl));(simp only[aC])))))|refine uN (hget) ?_)
      ·
       refine eT func174 λX0 hX=>?_;simp only[f174,go_sem]
       repeat' (first|exact⟨⟩|refine sq ?_|refine uF (hj) ?_|((refine aG (id:=2) aD aL [] [0,1,2,3,4,5,6,7,8,9,10] (by decide +kernel) ?_);(repeat' (first|(refine aO ?_)|((refine bK ?_ rfl rfl ?_ ?_);(rotate_left 1);(focus ((repeat' (first|exact⟨⟩|refine sq ?_|refine uF (hdir) ?_));exact rfl));(simp only[aC])))))|refine uN (hget) ?_|((with_reducible refine zOD (hth) ?_ ?_ ?_);exact rfl;exact rfl))
  ·
   refine eT func174 λX0 hX=>?_;simp only[f174,go_sem]
   repeat' (first|exact⟨⟩|refine sp ?_|refine uF (hj) ?_|((refine aG (id:=2) aD aL [] [0,1,2,3,4,5,6,7,8,9,10] (by decide +kernel) ?_);(repeat' (first|(refine aO ?_)|((refine bK ?_ rfl rfl ?_ ?_);(rotate_left 1);(focus ((repeat' (first|exact⟨⟩|refine sq ?_|refine uF (hdir) ?_));exact rfl));(simp only[aC]))))))
theorem zKO{t:List It}{s:List UInt8}{fo:Bool}(h:OkT t)(hs:s.length<=9223372036854775807):
  aA prog 100 [.c (.p (.sl 5 (aQ t))),.c (.p (.s s)),.c (.p (.b fo))] [] λr h=>r=.tup [.c (.p (.s (cV t s fo).1)),.c (.p (.b (cV t s fo).2.1)),.c (.p (.i .i64 (cV t s fo).2.2))]/\h=[]:=by
 have hsp:=AU (s:=s) hs;have hle:=wA (s:=s);have hme:=GC (s:=s);unfold cV;generalize fX s=S at hsp hle hme ⊢;obtain⟨P,e⟩:=S;simp only at hsp hle hme ⊢;generalize hW:(if (e==0)=true then oA t fo 1400 [] P 0 else ([],false,e))=W
 refine eT func100 λX0 hX=>?_;simp only[f100,go_sem]
 repeat' (first|exact⟨⟩|refine sp ?_|refine uN (hsp) ?_)
 refine aY aD aL (α:=Nat × List UInt8 × List (List UInt8) × Nat × Bool × Int) (λx=>⟨75,[(2,.c (.p (.b fo))),(10,.c (.p (.i .i64 x.2.2.2.2.2))),(11,.c (.ptr 0 0)),(12,.c (.p (.b x.2.2.2.2.1)))],[zOU t x.2.1 x.2.2.1 x.2.2.2.1]⟩)
  (λx=>WI t fo W x.1 x.2.1 x.2.2.1 x.2.2.2.1 x.2.2.2.2.1 x.2.2.2.2.2) (λx=>x.1) (1400,[],P,0,true,e) ⟨by simp,hme,by simp,by simp,λh0=>?_,λh0=>?_⟩ (.inl (aF (by rw[hX];rfl) rfl rfl wkS)) ?_
 .subst h0;refine⟨by simp,by simp only;omega,λ_=>⟨rfl,hW⟩,λh0=>?_⟩
  subst h0;exact hW.symm
 .rw[if_neg (by simpa using h0)] at hW;exact hW.symm
 rintro⟨f,c,ps,hops,there,e⟩ hI;simp only at hI;clear hW hsp hle hme;cases q0:(e==0)
 .have he:e≠0:=by simpa using q0
  have hw:=hI.no he;rw[hw];have q1:(e != 0)=true:=by rw[bne,q0];rfl
  have hc:decide ((0:Int)<(ps.length:Int))=true∨decide ((0:Int)<(ps.length:Int))=false:=by cases decide ((0:Int)<(ps.length:Int))<;>simp
  generalize decide ((0:Int)<(ps.length:Int))=b at hc
  repeat' (first|exact⟨⟩|refine sp ?_|refine bM (λ_=>?_) (λ_=>?_))
 .have he:e=0:=eq_of_beq q0;subst he;cases ps with
  | nil =>
   obtain⟨_,_,_,hw⟩:=hI.go rfl;rw[hw rfl]
   repeat' (first|exact⟨⟩|refine sp ?_)
  | cons p ps =>
   obtain⟨k,rfl⟩:∃k,f=k+1:=⟨f-1,by have:=(hI.go rfl).2.1;omega⟩
   have hfl:=hI.fl;obtain rfl:=hI.there_true;obtain⟨hh8,hb,_,_⟩:=hI.go rfl;simp only[List.length_cons] at hb;have h1:decide ((0:Int)<((ps.length+1:Nat):Int))=true:=decide_eq_true (by omega);have h2:(0:Int)<((ps.length+1:Nat):Int):=by omega
   have h3:(1:Int)<=((ps.length+1:Nat):Int):=by omega
   have hg:(Go.Dm.encS (p::ps)).getD 0 []=[.s p]:=rfl;have hdr:(Go.Dm.encS (p::ps)).drop 1=Go.Dm.encS ps:=rfl;have hpl:=hI.pl p List.mem_cons_self;have hcl:=hI.cl;cases q1:(p == [46])
   .cases q2:(p == [46,46])
    .have hdn:=hI.down q1 q2;have hdc:=zNE (t:=t) (c:=c) (s:=p) (ps:=ps) (hops:=hops) (fo:=fo) h (by omega) (by omega) (by omega) (by omega);generalize vC t fo c p ps hops=D at hdn hdc;obtain⟨⟨th,e'⟩,c',ps',h'⟩:=D;simp only at hdn hdc;clear hI
     repeat' (first|exact⟨⟩|refine sp ?_|refine zPU hdc rfl rfl ?_|refine ai ?_)
     exact gZ (k,c',ps',h',th,e') hdn (by simp only;omega) (aF rfl rfl rfl wkS)
    .have hdt:=hI.dots q1 q2;clear hI
     repeat' (first|exact⟨⟩|refine sp ?_|refine uF (dV (p:=c) (by omega)) ?_|refine ai ?_)
     exact gZ (k,aM c,ps,hops,true,0) hdt (by simp only;omega) (aF rfl rfl rfl wkS)
   .have hdt:=hI.dot q1;clear hI
    repeat' (first|exact⟨⟩|refine sp ?_|refine ai ?_)
    exact gZ (k,c,ps,hops,true,0) hdt (by simp only;omega) (aF rfl rfl rfl wkS)
end Go.Proofs.YtlbfnbldeefgmaaGreatDoor
end
section
namespace Go.Proofs.YtlbfnbldeefgmaaGreatDoor
open Go Go.Dm Go.Proofs.Tryz
theorem sort_k{h:aB}{id:Nat}{ss:List (List UInt8)}{K:DV->aB->Prop}(hid:h[id]?=some (.arr 1 (Go.Dm.encS ss) false))(hsz:ss.length<4611686018427387904)
  (hk:K (.tup []) (h.set id (.arr 1 (Go.Dm.encS (ss.mergeSort λx y=>decide (x<=y))) false))):aA prog 228 [.c (.own id 0 ss.length)] h K :=
 aA.mono (zOw hid hsz) (by rintro d h' ⟨rfl,rfl⟩;exact hk)
theorem LJ{h:aB}{id n:Nat}{ss:List (List UInt8)}{K:DV->aB->Prop}(hid:h[id]?=some (.arr 1 (Go.Dm.encS ss) false))(hsz:ss.length<4611686018427387904)(hn:n=ss.length)
  (hk:K (.c (.own id 0 (Lib.compact ss).length)) (h.set id (.arr 1 (Go.Dm.encS (Lib.compact ss++List.replicate (ss.length-(Lib.compact ss).length) [])) false))):aA prog 229 [.c (.own id 0 n)] h K:=by
 subst hn;exact aA.mono (zCI hid hsz) (by rintro d h' ⟨rfl,rfl⟩;exact hk)
theorem TJ{a b:List It}(hal:a.length<=120)(hbl:b.length<=120)(has:Srt a)(hbs:Srt b)(hna:∀x∈a,x.p≠[])(hnb:∀x∈b,x.p≠[])(hda2:∀x∈a,x.n.d.length<=2000)(hdb2:∀x∈b,x.n.d.length<=2000):
  aA prog 164 [.c (.p (.sl 5 (aQ a))),.c (.p (.sl 5 (aQ b)))] [] λr h=>r=.c (.p (.sl 10 (mM (eS a b))))/\h=[]:=by
 have hda:∀x∈a,x.n.d.length<=140737488355328:=λx hx=>Nat.le_trans (hda2 x hx) (by decide);have hdb:∀x∈b,x.n.d.length<=140737488355328:=λx hx=>Nat.le_trans (hdb2 x hx) (by decide);have hcl:(a++b).length<=240:=by rw[List.length_append];omega
 unfold eS PN;refine eT func164 λX0 hX=>?_;simp only[f164,go_sem]
 repeat' (first|exact⟨⟩|refine sp ?_|refine uN (zHc (a:=a) (b:=b) (by omega) (by omega)) ?_|((with_reducible apply aA.frz);exact rfl;exact rfl)|refine ai ?_)
 have hcab:(a++b).length=a.length+b.length:=List.length_append;generalize a++b=c at hcl hcab;refine iQ aD aL 5 1 rfl ?_;refine aY aD aL (α:=Nat × List (List UInt8)) (λx=>⟨69,[(0,.c (.p (.sl 5 (aQ a)))),(1,.c (.p (.sl 5 (aQ b)))),(19,.c (.p (.sl 5 (aQ c)))),(20,.c (.p (.i .i64 ((a.length:Int)+b.length)))),(5,.c (.own 1 0 x.2.length)),(21,.c (.p (.i .i64 x.1)))],[.arr 1 [[.sl 5 (aQ a)],[.sl 5 (aQ b)]] true,.arr 1 (Go.Dm.encS x.2) false]⟩)
  (λx=>x.1<=c.length/\x.2.length<=x.1/\x.2++(c.drop x.1).map It.p=c.map It.p) (λx=>c.length-x.1) (0,[]) ⟨Nat.zero_le _,Nat.le_refl _,rfl⟩ (.inl (aF (by rw[hX];rfl) rfl rfl wkS)) ?_
 rintro⟨k,out⟩ ⟨hk,hol,hout⟩;simp only at hk hol hout;by_cases hlt:k<c.length
 .have hx:c[k]?=some c[k]:=List.getElem?_eq_getElem hlt;have hg:=cZ hx;have hd:=drop_at hx;have h1:decide ((k:Int)<(a.length:Int)+b.length)=true:=decide_eq_true (by omega);have w1:IntKind.i64.wrap ((k:Int)+1)=k+1:=wrap_i64 (by omega) (by omega);generalize c[k]=x at hx hg hd;rw[hd,List.map_cons] at hout
  repeat' (first|exact⟨⟩|refine sp ?_|((with_reducible refine And.intro ?_ ?_);((first|omega|decide))))
  exact kV (k+1,out++[x.p]) 1 4 ⟨by simp only;omega,by simp;omega,by simpa using hout⟩ (by simp only;omega) rfl rfl (aF rfl rfl rfl wkS)
 .have h1:decide ((k:Int)<(a.length:Int)+b.length)=false:=decide_eq_false (by omega);rw[List.drop_of_length_le (by omega),List.map_nil,List.append_nil] at hout;rw[<- hout];clear hout;have hol2:out.length<=240:=by omega
  have hsl:(out.mergeSort λx y=>decide (x<=y)).length=out.length:=List.length_mergeSort ..
  repeat' (first|simp only[*,go_sem,Nat.reduceLT,Nat.reduceEqDiff,↓reduceIte,List.set_cons_succ,List.set_cons_zero]|refine sort_k (id:=1) (ss:=out) (by rfl) (by omega) ?_|refine LJ (id:=1) (ss:=out.mergeSort λx y=>decide (x<=y)) (by rfl) (by omega) (by omega) ?_)
  have hst:(out.mergeSort λx y=>decide (x<=y)).length<=240:=by omega
  generalize (out.mergeSort λx y=>decide (x<=y))=st at hst;have hcp:=zA st;generalize List.replicate (out.length-(Lib.compact st).length) ([]:List UInt8)=rest;generalize Lib.compact st=cp at hcp;clear hlt h1 hk hol hsl;refine iQ aD aL 8 10 rfl ?_;refine aY aD aL (α:=Nat × List Ch) (λx=>⟨69,[(0,.c (.p (.sl 5 (aQ a)))),(1,.c (.p (.sl 5 (aQ b)))),(34,.c (.own 1 0 cp.length)),(35,.c (.p (.i .i64 cp.length))),(36,.c (.p (.i .i64 x.1))),(8,.c (.own 2 0 x.2.length))],[.arr 1 [[.sl 5 (aQ a)],[.sl 5 (aQ b)]] true,.arr 1 (Go.Dm.encS (cp++rest)) false,.arr 10 (mM x.2) false]⟩)
   (λx=>x.1<=cp.length/\x.2.length<=x.1/\x.2++zCC a b (cp.drop x.1)=zCC a b cp) (λx=>cp.length-x.1) (0,[]) ⟨Nat.zero_le _,Nat.le_refl _,rfl⟩ (.inl (aF (by rw[hX];rfl) rfl rfl wkS)) ?_
  rintro⟨k,out2⟩ ⟨hk,hol,hout⟩;simp only at hk hol hout;by_cases hlt:k<cp.length
  .have hx:cp[k]?=some cp[k]:=List.getElem?_eq_getElem hlt;have hd:=drop_at hx;have hxr:(cp++rest)[k]?=some cp[k]:=by rw[List.getElem?_append_left hlt];exact hx
   have hg:=Go.Dm.encS_at hxr;have h1:decide ((k:Int)<(cp.length:Int))=true:=decide_eq_true (by omega);have w1:IntKind.i64.wrap ((k:Int)+1)=k+1:=wrap_i64 (by omega) (by omega);generalize cp[k]=p at hx hxr hg hd;rw[hd,zCC,chF] at hout
   repeat' (first|exact⟨⟩|refine sp ?_|refine uN (eW (t:=a) (by omega) has hna hda) ?_|refine uN (eW (t:=b) (by omega) hbs hnb hdb) ?_|refine uN (zKo _ _) ?_|refine aK (λ_=>?_) (λ_=>?_)|((with_reducible refine And.intro ?_ ?_);((first|omega|decide))))
   .rename_i hb;rw[if_pos hb] at hout;exact kV (k+1,out2++[⟨p,rS (aN a p).isSome (aN b p).isSome ((aN a p).getD nd0) ((aN b p).getD nd0),(aN a p).getD nd0,(aN b p).getD nd0⟩]) 2 6 ⟨by simp only;omega,by simp;omega,by simpa using hout⟩ (by simp only;omega) rfl rfl (aF rfl rfl rfl wkS)
   .rename_i hb;rw[if_neg (by rw[hb];decide)] at hout;exact gZ (k+1,out2) ⟨by simp only;omega,by simp only;omega,by simpa using hout⟩ (by simp only;omega) (aF rfl rfl rfl wkS)
  .have h1:decide ((k:Int)<(cp.length:Int))=false:=decide_eq_false (by omega);rw[List.drop_of_length_le (by omega),zCC,List.append_nil] at hout
   repeat' (first|exact⟨⟩|refine sp ?_)
theorem zNt{a b:List It}(ha:OkT a)(hb:OkT b):
  aA prog 164 [.c (.p (.sl 5 (aQ a))),.c (.p (.sl 5 (aQ b)))] [] λr h=>r=.c (.p (.sl 10 (mM (eS a b))))/\h=[] :=
 TJ ha.len hb.len ha.srt hb.srt (λx hx=>(ha.its x hx).1) (λx hx=>(hb.its x hx).1) ha.dlen hb.dlen
end Go.Proofs.YtlbfnbldeefgmaaGreatDoor
end
