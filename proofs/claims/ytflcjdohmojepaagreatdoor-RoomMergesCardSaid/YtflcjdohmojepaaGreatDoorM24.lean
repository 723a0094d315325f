/- Part 25 of the proof of roomMerges_card, set without needless blanks. No condition. -/
import Derived.Test.YtflcjdohmojepaaGreatDoorM23
set_option linter.all false
set_option maxRecDepth 100000
set_option maxHeartbeats 16000000
section
namespace Go.Dm
open Go Go.Sort
theorem XX{b o t:List It}{p:List UInt8}{x:It}(h:x∈mgI b o t p):x=⟨p,(mgN b o t p).1⟩/\(mgN b o t p).2.2=0/\(mgN b o t p).2.1=true:=by
 unfold mgI at h;split at h
 .simp at h
 .rename_i h1;split at h
  .rename_i h2;exact⟨by simpa using h,by simpa using h1,h2⟩
  .simp at h
theorem zAE{b o t:List It}{l:List (List UInt8)}{x:It}(h:x∈rU b o t l):x.p∈l/\x=⟨x.p,(mgN b o t x.p).1⟩/\(mgN b o t x.p).2.2=0/\(mgN b o t x.p).2.1=true:=by
 obtain⟨p,hp,hx⟩:=List.mem_flatMap.1 h;have:=XX hx;have e:x.p=p:=by rw[this.1]
 subst e;exact⟨hp,this⟩
theorem BG{α β:Type}{f:α->List β}{r:α->α->Prop}{s:β->β->Prop}(h1:∀a,(f a).length<=1)(h2:∀{a c x y},r a c->x∈f a->y∈f c->s x y):∀{l:List α},l.Pairwise r->(l.flatMap f).Pairwise s
 | [],_=>by simp
 | a::l,h=>by
  obtain⟨k1,k2⟩:=List.pairwise_cons.1 h;rw[List.flatMap_cons];refine List.pairwise_append.2 ⟨?_,BG h1 h2 k2,λx hx y hy=>?_⟩
  .have:=h1 a
   match f a,this with
   | [],_=>exact .nil
   | [x],_=>exact List.pairwise_singleton ..
  .obtain⟨c,hc,hyc⟩:=List.mem_flatMap.1 hy;exact h2 (k1 c hc) hx hyc
theorem XY(b o t:List It)(p:List UInt8):(mgI b o t p).length<=1:=by unfold mgI;split<;>(try split)<;>simp
theorem zFZ(b o t:List It)(p:List UInt8):(mgC b o t p).length<=1:=by unfold mgC;split<;>simp
theorem RX(t:List It)(bad:List Cf)(x:It):(yN t bad x).length<=1:=by unfold yN;split<;>simp
theorem zAS(b:List Pr)(x:Pr):(zCx b x).length<=1:=by unfold zCx;split<;>(try split)<;>simp
theorem zAN(b o t:List It):Srt (EG b o t):=BG (XY b o t) (λ{a c x y} hr hx hy=>by rw[(XX hx).1,(XX hy).1];exact hr) (lS _)
theorem SB(l:List Ch)(out:List Pr)(x:Ch):dO l out x=out∨∃p,dO l out x=out++[⟨x.p,p⟩]/\x.k=2/\x.o.k=1/\kO x.o.d out l=some p:=by
 unfold dO;split
 .exact .inl rfl
 .rename_i h1;simp only[Bool.or_eq_true,bne_iff_ne,ne_eq,not_or,Decidable.not_not] at h1;split
  .rename_i p hp;exact .inr ⟨p,rfl,h1.1,h1.2,hp⟩
  .exact .inl rfl
def zP2(b o t:List It):List Cf:=iY b o t (eH b o t)++(fB (EG b o t) (iY b o t (eH b o t))++fC (dD (bT b o)) (dD (bT b t)))
theorem WA(b o t:List It):ZV b o t=eB (zP2 b o t):=rfl
theorem oD{α β:Type}{f:α->List β}(h1:∀a,(f a).length<=1):∀l:List α,(l.flatMap f).length<=l.length
 | []=>by simp
 | a::l=>by
  have:=oD h1 l;have:=h1 a;rw[List.flatMap_cons,List.length_append,List.length_cons];omega
theorem SD(l:List Ch):∀(m:List Ch) (out:List Pr),(m.foldl (dO l) out).length<=out.length+m.length
 | [],out=>by simp
 | c::m,out=>by
  rw[List.foldl_cons,List.length_cons];have:=SD l m (dO l out c);rcases SB l out c with e|⟨p,e,_⟩
  .rw[e] at this ⊢;omega
  .rw[e] at this ⊢;simp at this;omega
theorem zCf(l:List Ch):(lR l).length<=l.length:=by have:=SD l l [];simpa[lR] using this
theorem kE(l:List Ch):(dD l).length<=l.length:=by
 rcases SC l with e|e<;>rw[e]
 .exact zCf l
 .simp
theorem rI(a b c:List It):(eH a b c).length<=a.length+b.length+c.length:=by
 refine Nat.le_trans (FL _) ?_;rw[List.length_mergeSort,List.length_map,List.length_append,List.length_append];omega
theorem zJ1(b o t:List It):(EG b o t).length<=b.length+o.length+t.length:=Nat.le_trans (oD (XY b o t) _) (rI b o t)
theorem zH6(b o t:List It):(ZV b o t).length<=3*(b.length+o.length+t.length):=by
 rw[WA,nF];unfold zP2;rw[List.length_append,List.length_append];have h1:=oD (zFZ b o t) (eH b o t);have h2:=rI b o t;have h3:=oD (RX (EG b o t) (iY b o t (eH b o t))) (EG b o t);have h4:=zJ1 b o t;have h5:=oD (zAS (dD (bT b t))) (dD (bT b o));have h6:=kE (bT b o);have h7:=kG b o;unfold iY fB fC at *;omega
theorem GZ{a b c:List It}{p:List UInt8}:p∈eH a b c↔(aM a p).isSome=true∨(aM b p).isSome=true∨(aM c p).isSome=true:=by
 have has:∀{t:List It},(∃x∈t,x.p=p)↔(aM t p).isSome=true:=λ{t}=>⟨λ⟨x,hx,e⟩=>e▸rD hx,λh=>by
  cases hg:aM t p with
  | none=>rw[hg] at h;cases h
  | some n=>obtain⟨x,hx,e,_⟩:=cB hg;exact⟨x,hx,e⟩⟩
 unfold eH;rw[sF,<- has,<- has,<- has];simp only[List.mem_map,List.mem_append];constructor
 .rintro⟨x,h|h|h,e⟩
  .exact .inl ⟨x,h,e⟩
  .exact .inr (.inl ⟨x,h,e⟩)
  .exact .inr (.inr ⟨x,h,e⟩)
 .rintro (⟨x,h,e⟩|⟨x,h,e⟩|⟨x,h,e⟩)
  .exact⟨x,.inl h,e⟩
  .exact⟨x,.inr (.inl h),e⟩
  .exact⟨x,.inr (.inr h),e⟩
theorem zGg{base o t:Nd}(hb:base.wf)(ho:o.wf)(ht:t.wf)(b p q:Bool):
  (wH base o t b p q).2.2=(jS base o t b p q).2.2/\(wH base o t b p q).2.1=(jS base o t b p q).2.1 /\
   ((jS base o t b p q).2.1=true->(wH base o t b p q).1=(jS base o t b p q).1):=by
 refine⟨((zAJ hb ho ht b p q).1).symm,((zAJ hb ho ht b p q).2.1).symm,?_⟩;unfold jS wH;rw[rO ho ht,rO hb ht,rO hb ho];by_cases h1:nD o t p q=true
 .simp only[h1,Bool.true_or,if_true];cases p<;>simp
 .by_cases h2:nD base t b q=true
  .have h3:nD base o b p=false:=by
    cases h3:nD base o b p with
    | false=>rfl
    | true=>exact absurd (HP h3 h2) h1
   simp only[h1,h2,h3,Bool.or_true,if_true,Bool.false_eq_true,if_false];cases p<;>simp
  .by_cases h3:nD base o b p=true
   .simp only[h1,h2,h3,Bool.or_self,Bool.false_eq_true,if_false,if_true];cases q<;>simp
   .simp only[h1,h2,h3,Bool.or_self,Bool.false_eq_true,if_false];cases p with
    | false=>simp
    | true =>
     cases q with
     | false=>simp
     | true =>
      simp only[Bool.not_true,Bool.false_eq_true,if_false,sA];have e1:=nE (b:=b) (o:=iW base o) (t:=iW base t) (alike:=iW o t) (λx y=>JF x y);have e2:=nE (b:=b) (o:=base.m==o.m) (t:=base.m==t.m) (alike:=o.m==t.m) (λx y=>by simp only[beq_iff_eq] at x y ⊢;exact x.symm.trans y)
      have e3:=nE (b:=b) (o:=bJ base.t==bJ o.t) (t:=bJ base.t==bJ t.t) (alike:=bJ o.t==bJ t.t) (λx y=>by simp only[beq_iff_eq] at x y ⊢;exact x.symm.trans y)
      simp only[gL ho ht,gL hb ho,gL hb ht,QW ho ht,e1,e2,e3];clear e1 e2 e3;cases yO b (iW o t) (iW base o) (iW base t) with
      | none=>cases b<;>by_cases hk:o.k=t.k<;>simp[hk]
      | some w =>
       cases yO b (o.m==t.m) (base.m==o.m) (base.m==t.m) with
       | none=>cases w<;>cases b<;>by_cases hk:o.k=t.k<;>simp[hk]
       | some m =>
        cases yO b (bJ o.t==bJ t.t) (bJ base.t==bJ o.t) (bJ base.t==bJ t.t) with
        | none=>cases w<;>cases m<;>simp
        | some c=>cases w<;>cases m<;>cases c<;>simp
theorem zCh(b o t:List It):dL (dL (dL [] b) o) t=eH b o t :=
 oM (lt:=cD) cF (λh=>eS h) (kC (kC (kC .nil))) (lS _) λp=>by
  show p∈dL (dL (dL [] b) o) t↔p∈Lib.compact (((b++(o++t)).map It.p).mergeSort λx y=>decide (x<=y));rw[sF,jZ,jZ,jZ];simp only[List.mem_map,List.mem_append,List.not_mem_nil,false_or];constructor
  .rintro ((⟨x,h,e⟩|⟨x,h,e⟩)|⟨x,h,e⟩)
   .exact⟨x,.inl h,e⟩
   .exact⟨x,.inr (.inl h),e⟩
   .exact⟨x,.inr (.inr h),e⟩
  .rintro⟨x,h|h|h,e⟩
   .exact .inl (.inl ⟨x,h,e⟩)
   .exact .inl (.inr ⟨x,h,e⟩)
   .exact .inr ⟨x,h,e⟩
theorem zAr(p:List UInt8)(b:List It):∀a:List It,aM (a++b) p=match aM a p with
  | some n=>some n
  | none=>aM b p
 | []=>rfl
 | x::a=>by
  rw[List.cons_append,aM,aM];split
  .rfl
  .exact zAr p b a
theorem zLX{b o t:List It}(h:(ZV b o t).length=0):iY b o t (eH b o t)=[]/\fB (EG b o t) []=[]:=by
 rw[WA,nF] at h;unfold zP2 at h;rw[List.length_append,List.length_append] at h;have h1:iY b o t (eH b o t)=[]:=List.length_eq_zero_iff.1 (by omega);rw[h1] at h;exact⟨h1,List.length_eq_zero_iff.1 (by omega)⟩
theorem zJ2{b o t:List It}(h:(ZV b o t).length=0):Par (EG b o t):=λx hx=>by
 have h2:=List.flatMap_eq_nil_iff.1 (zLX h).2 x hx;unfold yN at h2;split at h2
 .simp at h2
 .rename_i h3;simpa using h3
theorem LB(a b:Nat):rZ a b=bJ a∨rZ a b=bJ b:=by unfold rZ;split<;>simp
theorem yP{x y z:Nd}{u:Bool}(hy:aR y=true)(hz:aR z=true)(hyw:y.wf)(hzw:z.wf)(n:Nd)
  (hk:(n.k=y.k/\n.d=y.d)∨(n.k=z.k/\n.d=z.d))(hm:n.m=y.m∨n.m=z.m)(ht:n.t=y.t∨n.t=z.t∨n.t=rZ y.t z.t):aR n=true/\n.t<18446744073709551616:=by
 have hpy:=gM hy hyw;have hpz:=gM hz hzw;have hnt:n.t<18446744073709551616/\bJ n.t=n.t:=by
  rcases ht with e|e|e
  .rw[e];exact hpy
  .rw[e];exact hpz
  .rcases LB y.t z.t with e2|e2
   .rw[e,e2,hpy.2];exact hpy
   .rw[e,e2,hpz.2];exact hpz
 refine⟨?_,hnt.1⟩;have hw:n.wf:=hnt.1;rw[<- jT hw];rw[<- jT hyw] at hy;rw[<- jT hzw] at hz;unfold mV at *;simp only[Bool.and_eq_true,decide_eq_true_eq,beq_iff_eq] at *;obtain⟨⟨⟨y1,y2⟩,y3⟩,_⟩:=hy;obtain⟨⟨⟨z1,z2⟩,z3⟩,_⟩:=hz;refine⟨⟨⟨?_,?_⟩,?_⟩,hnt.2⟩
 .unfold zBt at *;rcases hk with⟨e1,e2⟩|⟨e1,e2⟩
  .rw[e1,e2];exact y1
  .rw[e1,e2];exact z1
 .rcases hm with e|e<;>rw[e]<;>assumption
 .rcases hm with e|e<;>rw[e]<;>assumption
theorem YE{x y z:Nd}{u v w:Bool}(hy:v=true->aR y=true)(hz:w=true->aR z=true)(hyw:y.wf)(hzw:z.wf)(h0:(jS x y z u v w).2.2=0)(h:(jS x y z u v w).2.1=true):
  aR (jS x y z u v w).1=true/\(jS x y z u v w).1.t<18446744073709551616:=by
 revert h0 h;unfold jS;split
 .intro _ h;simp only at h;rw[h,if_pos rfl];exact⟨hy h,hyw⟩
 .split
  .intro _ h;simp only at h;rw[h,if_pos rfl];exact⟨hz h,hzw⟩
  .cases v
   .simp
   .cases w
    .simp
    .simp only[Bool.not_true,Bool.false_eq_true,if_false];split
     .intro _ _;refine yP (x:=x) (u:=u) (hy rfl) (hz rfl) hyw hzw _ ?_ ?_ ?_
      .unfold sA;simp only;split<;>simp
      .unfold sA;simp only;split<;>simp
      .unfold sA;simp only;split
       .simp
       .split<;>simp
     .intro h0;exfalso;revert h0
      repeat' split
      all_goals simp
theorem zM9{b o t:List It}(hb:OkT b)(ho:OkT o)(ht:OkT t)(h:(ZV b o t).length=0)(hl:(EG b o t).length<=120):OkT (EG b o t):=by
 refine ⟨⟨zAN b o t,λx hx=>?_,hl⟩,zJ2 h⟩;obtain⟨h1,h2,h3,h4⟩:=zAE hx;have hp:x.p≠[]/\bW x.p=true:=by
  rcases GZ.1 h1 with h|h|h
  .exact⟨(hb.getok h).1,(hb.getok h).2.1⟩
  .exact⟨(ho.getok h).1,(ho.getok h).2.1⟩
  .exact⟨(ht.getok h).1,(ht.getok h).2.1⟩
 have hn:=YE (x:=(aM b x.p).getD nd0) (u:=(aM b x.p).isSome) (λh=>(ho.getok h).2.2) (λh=>(ht.getok h).2.2) (ho.gett x.p) (ht.gett x.p) h3 h4;have e:x.n=(mgN b o t x.p).1:=by rw[h2]
 refine⟨hp.1,hp.2,?_,?_⟩
 .rw[e];exact hn.1
 .rw[e];exact hn.2
structure OkS (t:List It):Prop where
 srt:Srt t
 ne:∀x∈t,x.p≠[]
 plen:∀x∈t,x.p.length<=1000
 dlen:∀x∈t,x.n.d.length<=2000
 tlen:∀x∈t,x.n.t<18446744073709551616
 len:t.length<=120
theorem OkT.s{t:List It}(h:OkT t):OkS t:=⟨h.srt,h.ne,λx hx=>Nat.le_trans (h.plen x hx) (by decide),h.dlen,h.tlen,h.len⟩
theorem OkS.getd{t:List It}(h:OkS t)(p:List UInt8):((aM t p).getD nd0).d.length<=2000:=by
 cases hg:aM t p with
 | none=>simp[nd0]
 | some n=>obtain⟨x,hx,_,e⟩:=cB hg;rw[Option.getD_some,<- e];exact h.dlen x hx
theorem OkS.gett{t:List It}(h:OkS t)(p:List UInt8):((aM t p).getD nd0).t<18446744073709551616:=by
 cases hg:aM t p with
 | none=>simp[nd0]
 | some n=>obtain⟨x,hx,_,e⟩:=cB hg;rw[Option.getD_some,<- e];exact h.tlen x hx
theorem zBX{t:List It}{p:List UInt8}(r:List It)(h:bC t p=true):bC (t++r) p=true:=by
 by_cases hp:p=[]
 .subst hp;rfl
 .obtain⟨m,h1,h2⟩:=cS hp h;exact fS (m:=m) (by rw[zAr,h1]) h2
theorem OkT.take{t:List It}(h:OkT t)(k:Nat):OkT (t.take k):=by
 refine⟨⟨h.srt.sublist (List.take_sublist _ _),λx hx=>h.its x (List.mem_of_mem_take hx),Nat.le_trans (by rw[List.length_take];omega) h.len⟩,λx hx=>?_⟩;obtain⟨j,hj,rfl⟩:=List.mem_iff_getElem.1 hx;have hjk:j<k/\j<t.length:=by rw[List.length_take] at hj;omega
 rw [List.getElem_take];have h1:=GF h (List.getElem?_eq_getElem hjk.2);have h2:=zBX ((t.take k).drop j) h1;have e:t.take j++(t.take k).drop j=t.take k:=by
  have:=List.take_append_drop j (t.take k);rw[List.take_take,Nat.min_eq_left (by omega)] at this;exact this
 rw[e] at h2;exact h2
theorem AU{a b:List It}(ha:OkS a)(hb:OkS b):∀x∈bT a b,x.p.length<=1000000000/\x.o.t<18446744073709551616/\x.n.t<18446744073709551616:=λx hx=>by
 obtain⟨h1,h2⟩:=fI hx;obtain⟨h3,_⟩:=tY hx;refine⟨?_,by rw[h1];exact ha.gett _,by rw[h2];exact hb.gett _⟩
 rcases rJ.1 h3 with⟨y,hy,e⟩|⟨y,hy,e⟩
 .rw[<- e];exact Nat.le_trans (ha.plen y hy) (by decide)
 .rw[<- e];exact Nat.le_trans (hb.plen y hy) (by decide)
theorem RY{b o t:List It}(hb:OkS b)(ho:OkS o)(ht:OkS t):∀x∈EG b o t,x.p.length<=1000:=λx hx=>by
 obtain ⟨h1,_⟩:=zAE hx;have key:∀{s:List It},OkS s->(aM s x.p).isSome=true->x.p.length<=1000:=λ{s} hs h=>by
  cases hg:aM s x.p with
  | none=>rw[hg] at h;cases h
  | some n=>obtain⟨y,hy,e,_⟩:=cB hg;rw[<- e];exact hs.plen y hy
 rcases GZ.1 h1 with h|h|h
 .exact key hb h
 .exact key ho h
 .exact key ht h
theorem zAD(b o t:List It)(l:List (List UInt8)):(rU b o t l).length<=l.length:=oD (XY b o t) l
theorem zAC(b o t:List It)(l:List (List UInt8)):(iY b o t l).length<=l.length:=oD (zFZ b o t) l
theorem CG(t:List It)(bad:List Cf):(fB t bad).length<=t.length:=oD (RX t bad) t
theorem CZ(a b:List Pr):(fC a b).length<=a.length:=oD (zAS b) a
end Go.Dm
end
section
namespace Go.Dm
open Go
def mD(t:List It)(x:RU):List UInt8 :=
 if decide ((0:Int)<(t.length:Int)) && decide ((0:Int)<x.at'.tmod 3) then (t.getD ((IntKind.i64.wrap (x.at'.tdiv 3)) % (t.length:Int)).toNat ⟨[],nd0⟩).p else tE x.at'
def mK(t:List It)(r:List It × Int):List It:=if r.2==0 then r.1 else t
def yS(t:List It)(x:RU):List It :=
 if x.what % 8==3 then bR t (mD t x)
 else if x.what % 8==4 then (if (aM t (mD t x)).isSome then mK t (mE t (mD t x) ⟨((aM t (mD t x)).getD nd0).k,x.n.m % 4096,((aM t (mD t x)).getD nd0).t,((aM t (mD t x)).getD nd0).d⟩) else t)
 else if x.what % 8==5 then (if (aM t (mD t x)).isSome then mK t (mE t (mD t x) ⟨((aM t (mD t x)).getD nd0).k,((aM t (mD t x)).getD nd0).m,bJ (ZH x.n.t x.n.x),((aM t (mD t x)).getD nd0).d⟩) else t)
 else if x.what % 8==6 then (if (aM t (mD t x)).isSome && ((aM t (mD t x)).getD nd0).k==1 then mK t (mE t (mD t x) ⟨((aM t (mD t x)).getD nd0).k,((aM t (mD t x)).getD nd0).m,((aM t (mD t x)).getD nd0).t,x.n.d.take 60⟩) else t)
 else if x.what % 8==7 then mK t (jQ t (mD t x) (tE x.to'))
 else mK t (mE t (mD t x) (EX x.n))
def zC3(t:List It)(l:List RU):List It:=(l.take 14).foldl yS t
theorem qR{t:List It}{p:List UInt8}{n:Nd}(h:OkT t)(hn:n.t<18446744073709551616):OkT (mK t (mE t p n)):=by
 unfold mK;split
 .exact h.put hn (eq_of_beq (by assumption))
 .exact h
theorem zDz{t:List It}{p q:List UInt8}(h:OkT t):OkT (mK t (jQ t p q)):=by
 unfold mK;split
 .exact h.move (eq_of_beq (by assumption))
 .exact h
theorem zKP{t:List It}{x:RU}(h:OkT t)(hx:x.n.x<18446744073709551616):OkT (yS t x):=by
 unfold yS;split
 .exact h.remove _
 split
 .split
  .exact qR h (h.gett _)
  .exact h
 split
 .split
  .exact qR h (lN (zA5 hx))
  .exact h
 split
 .split
  .exact qR h (h.gett _)
  .exact h
 split
 .exact zDz h
 .exact qR h (zQ hx)
theorem MZ:∀{l:List RU} {t:List It},OkT t->(∀x∈l,x.n.x<18446744073709551616)->OkT (l.foldl yS t)
 | [],_,h,_=>h
 | a::r,t,h,hx=>MZ (l:=r) (t:=yS t a) (zKP h (hx _ List.mem_cons_self)) λy hy=>hx y (List.mem_cons_of_mem _ hy)
theorem zA6{t:List It}{l:List RU}(h:OkT t)(hx:∀x∈l,x.n.x<18446744073709551616):OkT (zC3 t l) :=
 MZ h λx hm=>hx x (List.take_subset _ _ hm)
theorem zC4{t:List It}{l:List RU}{i:Nat}{x:RU}(h:l[i]?=some x):(l.take (i+1)).foldl yS t=yS ((l.take i).foldl yS t) x:=by
 rw[List.take_add_one,h];simp
theorem VE{t:List It}{l:List RU}{i:Nat}(h:l.length<=i∨14<=i)(h2:i<=14):(l.take i).foldl yS t=zC3 t l:=by
 unfold zC3;rcases h with h|h
 .rw[List.take_of_length_le h,List.take_of_length_le (Nat.le_trans h h2)]
 .rw[show i=14 by omega]
section
variable {r:Rm}{d:Dr}{y:Ly × List It}{t:List It}{l:List Ch}
def qJ(r:Rm)(s:List UInt8):List It × Int:=if !((bY r s).2==0) then ([],(bY r s).2) else (treeR r (bY r s).1.i,0)
theorem JC(h:SimW r d)(s:List UInt8):qJ r s=zHo d s:=by
 unfold qJ zHo;cases hn:vQ d.N s with
 | none =>
  obtain⟨h1,h2⟩:=dJ h hn;rw[h1,h2];rfl
 | some n =>
  obtain⟨y,hy,h1,h2,h3,h4,h5⟩:=dK h hn;rw[h1,h2,h5];show (treeR r y.1.i,(0:Int))=(cY d y.1.i,0);rw[h.treeR]
def zCQ(r:Rm)(l:Ly)(t:List It):Rm:=if gR (treeR r l.i) t then r else ⟨r.N,r.L,oY r.E l.i (eF (treeR r l.p) t),r.x⟩
theorem DO(h:Sim r d)(hy:y∈d.L)(ht:OkT t)(hf:t=y.2∨y.1.f=false):Sim (zCQ r y.1 t) (lH d y.1.i t):=by
 have e:=jV h.g.inc hy;unfold zCQ;rw[h.toSimW.treeR,h.toSimW.treeR,e];cases hs:gR y.2 t
 .rw[if_neg (by decide)];rcases hf with rfl|hf
  .rw[ZA (h.t y hy)] at hs;cases hs
  .exact zNr h hy hf ht
 .rw[if_pos rfl];have:=TO (λx hx=>gM ((h.t y hy).its x hx).2.2.1 ((h.t y hy).tlen x hx)) (λx hx=>gM (ht.its x hx).2.2.1 (ht.tlen x hx)) hs;rw[<- this,<- e,VK h.g.inc];exact h
def zD7(r:Rm)(s:List UInt8)(c:Cl):Rm × An :=
 if !((bY r s).2==0) then (r,anE (bY r s).2) else if (bY r s).1.f && nH c.k then (r,anE 14)
 else (zCQ r (bY r s).1 (doP (treeR r (bY r s).1.i) c).1,(doP (treeR r (bY r s).1.i) c).2)
theorem zOH(h:Sim r d)(s:List UInt8){c:Cl}(hc:c.t<18446744073709551616):(zD7 r s c).2=(doD d s c).2/\Sim (zD7 r s c).1 (doD d s c).1:=by
 unfold zD7 doD;cases hn:vQ d.N s with
 | none =>
  obtain⟨h1,h2⟩:=dJ h.toSimW hn;rw[h1,h2];exact⟨rfl,h⟩
 | some n =>
  obtain⟨y,hy,h1,h2,h3,h4,h5⟩:=dK h.toSimW hn;have hy2:=h.t y hy;rw[h1,h2,h5,iV h3,eA h3];rw[show (!((0:Int)==0))=false from rfl]
  simp only[Bool.false_eq_true,if_false];rw[h.toSimW.treeR,eA h3,<- zQl hy2];cases hft:y.1.f && nH c.k
  .simp only[Bool.false_eq_true,if_false];cases he:((doP y.2 c).2.e==0)
   .simp only[Bool.not_false,if_true,true_and];have e1:=zL6 (t:=y.2) (c:=c) (by simpa using he);rw[e1];have:=DO h hy hy2 (.inl rfl);rw[show lH d y.1.i y.2=d by rw[<- eA h3,VK h.g.inc]] at this
    exact this
   .simp only[Bool.not_true,Bool.false_eq_true,if_false,true_and];refine DO h hy (zOF hy2 hc) ?_;cases hf:y.1.f
    .exact .inr rfl
    .rw[hf,Bool.true_and] at hft;exact .inl (zL7 hft)
  .exact⟨rfl,h⟩
def iH(r:Rm)(s:List UInt8)(l:List Ch):Rm × Int :=
 if !((wsP r s).2==0) then (r,(wsP r s).2) else if !((fH (treeR r (wsP r s).1.i) l).2==0) then (r,(fH (treeR r (wsP r s).1.i) l).2)
 else (zCQ r (wsP r s).1 (fH (treeR r (wsP r s).1.i) l).1,0)
def FG(d:Dr)(s:List UInt8)(l:List Ch):Dr × Int :=
 if cV d.N s==0 then (d,6) else if kH d (cV d.N s) then (d,14) else if !((fH (cY d (cV d.N s)) l).2==0) then (d,(fH (cY d (cV d.N s)) l).2)
 else (lH d (cV d.N s) (fH (cY d (cV d.N s)) l).1,0)
theorem NL(ht:OkT t)(hp:∀x∈l,x.n.t<18446744073709551616)(he:(fH t l).2=0):OkT (fH t l).1:=by
 unfold fH at he ⊢;split at he
 .cases he
 .rename_i h1;split at he
  .cases he
  .rename_i h2;split at he
   .cases he
   .rename_i h3;split at he
    .cases he
    .rename_i h4;rw[if_neg h1,if_neg h2,if_neg h3,if_neg h4];refine SY (λy hy=>?_) (by simpa using h4);rcases zFU hy with⟨c,hc,rfl⟩|hy
     .exact hp c hc
     .exact ht.tlen y hy
theorem zDm(h:Sim r d)(s:List UInt8)(hl:∀x∈l,x.n.t<18446744073709551616):(iH r s l).2=(FG d s l).2/\Sim (iH r s l).1 (FG d s l).1:=by
 unfold iH FG wsP;cases hn:vQ d.N s with
 | none =>
  obtain⟨h1,h2⟩:=dJ h.toSimW hn;rw[h1,h2];exact⟨rfl,h⟩
 | some n =>
  obtain⟨y,hy,h1,h2,h3,h4,h5⟩:=dK h.toSimW hn;have hy2:=h.t y hy;rw[h1,h2,h5,iV h3,eA h3];cases hf:y.1.f;rotate_left 1
  .exact⟨rfl,h⟩
  .rw[show ((0:Int)==0 && false)=false from rfl]
   simp only[Bool.false_eq_true,if_false];rw[show (!((0:Int)==0))=false from rfl]
   simp only[Bool.false_eq_true,if_false];rw[h.toSimW.treeR,eA h3];cases he:((fH y.2 l).2==0)
   .exact⟨rfl,h⟩
   .simp only[Bool.not_true,Bool.false_eq_true,if_false,true_and];exact DO h hy (NL hy2 hl (by simpa using he)) (.inr hf)
def fL(b o t:List It):List It × List Cf × Int :=
 if decide (0<((bK b o t).2.length:Int)) then ([],(bK b o t).2,17) else if decide (120<((bK b o t).1.length:Int)) then ([],[],16) else ((bK b o t).1,[],0)
def eL(r:Rm)(o t:List UInt8):Ly × Ly × Int :=
 if !((bY r o).2==0) then ((bY r o).1,(bY r o).1,(bY r o).2)
 else ((bY r o).1,(bY r t).1,if (bY r t).2==0 && (!(bY r o).1.f || !(bY r t).1.f) then 13 else (bY r t).2)
def gK(r:Rm)(o t s:List UInt8):Rm × List Cf × Int :=
 if !((eL r o t).2.2==0) then (r,[],(eL r o t).2.2) else if !(gY r s==0) then (r,[],gY r s) else if !(iC r (eL r o t).1.i==0) then (r,[],iC r (eL r o t).1.i)
 else
  let m:=fL (treeR r (JQ r.L (eL r o t).1.i (eL r o t).2.1.i)) (treeR r (eL r o t).1.i) (treeR r (eL r o t).2.1.i)
  if !(m.2.2==0) then (r,m.2.1,m.2.2)
  else (zDa r s (eL r o t).1.i (if (eL r o t).1.i==(eL r o t).2.1.i then 0 else (eL r o t).2.1.i) (eF (treeR r (eL r o t).1.i) m.1),[],0)
def GL(d:Dr)(o t s:List UInt8):Dr × List Cf × Int :=
 if cV d.N o==0 || cV d.N t==0 then (d,[],6) else if !kH d (cV d.N o) || !kH d (cV d.N t) then (d,[],13) else if !(mO d s==0) then (d,[],mO d s) else if yF d (cV d.N o) then (d,[],15)
 else
  let m:=bK (cY d (JQ d.G (cV d.N o) (cV d.N t))) (cY d (cV d.N o)) (cY d (cV d.N t))
  if decide (0<(m.2.length:Int)) then (d,m.2,17) else if decide (120<(m.1.length:Int)) then (d,[],16)
  else (yI d s (cV d.N o) (if cV d.N t==cV d.N o then 0 else cV d.N t) m.1,[],0)
theorem uQ{b o:List It}(hb:OkT b)(ho:OkT o)(ht:OkT t)(h1:¬ 0<(bK b o t).2.length)(h2:¬ 120<(bK b o t).1.length):OkT (bK b o t).1:=by
 unfold bK at h1 h2 ⊢;split at h1
 .rename_i hz;rw[if_pos hz] at h2 ⊢;exact zM9 hb ho ht (eq_of_beq hz) (by simp only at h2;omega)
 .rename_i hz;simp only at h1;exact absurd (show ((ZV b o t).length==0)=true by simp;exact List.eq_nil_of_length_eq_zero (by omega)) hz
theorem zFX(h:Sim r d)(o t s:List UInt8):(gK r o t s).2=(GL d o t s).2/\Sim (gK r o t s).1 (GL d o t s).1:=by
 unfold gK GL eL;cases hn:vQ d.N o with
 | none =>
  obtain⟨h1,h2⟩:=dJ h.toSimW hn;rw[h1,h2];exact⟨rfl,h⟩
 | some n =>
  obtain⟨y,hy,h1,h2,h3,h4,h5⟩:=dK h.toSimW hn;have hy2:=h.t y hy;rw[h1,h2,h5,iV h3,eA h3];rw[show (!((0:Int)==0))=false from rfl]
  simp only[Bool.false_eq_true,if_false,Bool.false_or];cases hnt:vQ d.N t with
  | none =>
   obtain⟨k1,k2⟩:=dJ h.toSimW hnt;rw[k1,k2];exact⟨rfl,h⟩
  | some m =>
   obtain⟨z,hz,k1,k2,k3,k4,k5⟩:=dK h.toSimW hnt;have hz2:=h.t z hz;rw[k1,k2,k5,iV k3,eA k3];rw[show ((0:Int)==0)=true from rfl]
   simp only[Bool.true_and,Bool.false_eq_true,if_false];cases hfr2:(!y.1.f || !z.1.f);rotate_left 1
   .exact⟨rfl,h⟩
   .simp only[Bool.false_eq_true,if_false];rw[show (!((0:Int)==0))=false from rfl]
    simp only[Bool.false_eq_true,if_false];simp only[Bool.or_eq_false_iff,Bool.not_eq_false'] at hfr2;rw[rA h.toSimW];cases hfr:(mO d s==0)
    .exact⟨rfl,h⟩
    .simp only[Bool.not_true,Bool.false_eq_true,if_false];rw[nQ h.toSimW,Bool.not_not];cases hd:yF d y.1.i
     .simp only[Bool.false_eq_true,if_false];obtain⟨f1,f2,f3,f4,f5⟩:=rB hfr;rw[h.toSimW.treeR,h.toSimW.treeR,h.toSimW.treeR,eA h3,eA k3,h.L];unfold fL;have hbk:=h.toOkW.tree (JQ d.G y.1.i z.1.i);generalize cY d (JQ d.G y.1.i z.1.i)=b at hbk ⊢;cases hc1:decide (0<((bK b y.2 z.2).2.length:Int))
      .simp only[Bool.false_eq_true,if_false];cases hc2:decide (120<((bK b y.2 z.2).1.length:Int))
       .simp only[Bool.false_eq_true,if_false];rw[show (!((0:Int)==0))=false from rfl]
        simp only[Bool.false_eq_true,if_false,true_and];simp only[decide_eq_false_iff_not] at hc1 hc2;have hok:=uQ hbk hy2 hz2 (by omega) (by omega);have hq:(if y.1.i==z.1.i then (0:Int) else z.1.i)=(if z.1.i==y.1.i then 0 else z.1.i):=by
         by_cases e:y.1.i=z.1.i
         .rw[if_pos (by simpa using e),if_pos (by simpa using e.symm)]
         .rw[if_neg (by simpa using e),if_neg (by simpa using λe'=>e e'.symm)]
        rw[hq];refine MS h.toSimW f1 ⟨y,hy,rfl,hfr2.1⟩ ?_ (rH hd) hok f5 (by have:=iT d.N s d.x;omega) (by rw[eA h3]) ?_
        .by_cases e:z.1.i=y.1.i
         .exact .inl (if_pos (by simpa using e))
         .right;rw[if_neg (by simpa using e)];exact⟨λe'=>e e'.symm,z,hz,rfl,hfr2.2⟩
        .have:=KX (jP d s y.1.i (if z.1.i==y.1.i then 0 else z.1.i) (bK b y.2 z.2).1) (zN h.toOkW _ _ _ _)
         have e:(jP d s y.1.i (if z.1.i==y.1.i then 0 else z.1.i) (bK b y.2 z.2).1).L.length=d.L.length+1:=by show (d.L++[_]).length=_;rw[List.length_append];rfl
         rw[zH];omega
       .exact⟨rfl,h⟩
      .exact⟨rfl,h⟩
     .simp only[if_true];rw[JY r y.1.i (by rw[nQ h.toSimW,hd];rfl)];exact⟨rfl,h⟩
def iO(r:Rm)(s onto:List UInt8):Rm × List Cf × Int :=
 if !((wsP r s).2==0) then (r,[],(wsP r s).2) else if !((snP r onto).2==0) then (r,[],(snP r onto).2) else if !(iC r (snP r onto).1.i==0) then (r,[],iC r (snP r onto).1.i)
 else
  let m:=fL (treeR r (wsP r s).1.p) (treeR r (snP r onto).1.i) (treeR r (wsP r s).1.i)
  if !(m.2.2==0) then (r,m.2.1,m.2.2) else if decide (2147483647<=r.x) then (r,[],16)
  else (zDa r s (snP r onto).1.i 0 (eF (treeR r (snP r onto).1.i) m.1),[],0)
def zQM(d:Dr)(id:Int):Int:=match sS d id with
 | some y=>y.1.p
 | none=>0
def wL(d:Dr)(s onto:List UInt8):Dr × List Cf × Int :=
 if cV d.N s==0 then (d,[],6) else if kH d (cV d.N s) then (d,[],14) else if cV d.N onto==0 then (d,[],6) else if !kH d (cV d.N onto) then (d,[],13) else if yF d (cV d.N onto) then (d,[],15)
 else
  let m:=bK (cY d (zQM d (cV d.N s))) (cY d (cV d.N onto)) (cY d (cV d.N s))
  if decide (0<(m.2.length:Int)) then (d,m.2,17) else if decide (120<(m.1.length:Int)) || decide (2147483647<=d.x) then (d,[],16)
  else (yI d s (cV d.N onto) 0 m.1,[],0)
theorem zCo(h:OkW d){s:List UInt8}{n:Nm}(hn:vQ d.N s=some n)(hy:y∈d.L)(hyn:y.1.i=n.l)(hf:y.1.f=false){p:Int}(hp:EL d p)(hc:(bV d.G p).length<=11)(hx:d.x<2147483647):(yI d s p 0 t).L.length<=d.L.length:=by
 obtain ⟨g1,g2⟩:=fU hn;have hinc:=zN h s p 0 t;have hz:∀x∈d.G,x.i<d.x:=λx hx=>by
  obtain⟨w,hw,rfl⟩:=LH.1 hx;exact h.nx.1 w hw
 have hg:OkG (jP d s p 0 t).G:=by
  rw[zAF];exact zFk h.g hz ⟨h.nx.2.1,by simp only;omega⟩ (xB hp) (.inl rfl) (λh0=>absurd rfl h0) hc
 have hno:wE (jP d s p 0 t).G (nZ (jP d s p 0 t).N) y.1.i=false:=by
  rw[Bool.eq_false_iff];intro hk;obtain⟨m,hm,ha⟩:=zGi hk;rcases zBd hg ha with e|⟨w,hw,e1,e2⟩
  .rcases (tX h.srt).1 hm with rfl|⟨m1,m2⟩
   .have:=h.nx.1 y hy;simp only at e;omega
   .have:=h.one n g1 m m1 (by omega) λz hz hzn=>by rw[zJw h.g.inc hz hy (by omega)];exact hf
    subst this;exact m2 g2
  .obtain⟨w',hw',rfl⟩:=LH.1 hw;rcases List.mem_append.1 (show w'∈d.L++[_] from hw') with h1|h1
   .rw[zJw h.g.inc h1 hy e1,hf] at e2;cases e2
   .rw[List.mem_singleton] at h1;subst h1;cases e2
 rw[zH];show (zB1 (jP d s p 0 t)).length<=_;rw[zK hinc];have hm:y∈(jP d s p 0 t).L:=show y∈d.L++[_] from List.mem_append_left _ hy
 have h1:∀{l:List (Ly × List It)} {f:Ly × List It->Bool},y∈l->f y=false->(l.filter f).length+1<=l.length:=by
  intro l f
  induction l with
  | nil=>intro h;cases h
  | cons z l ih =>
   intro hz hfy;rw[List.filter_cons];have:=List.length_filter_le f l;rcases List.mem_cons.1 hz with rfl|hz
   .rw[if_neg (by rw[hfy];decide)];simp only[List.length_cons];omega
   .have:=ih hz hfy;split<;>simp only[List.length_cons]<;>omega
 have h2:=h1 (f:=λz=>wE (jP d s p 0 t).G (nZ (jP d s p 0 t).N) z.1.i) hm hno;have h3:(jP d s p 0 t).L.length=d.L.length+1:=by show (d.L++[_]).length=_;rw[List.length_append];rfl
 omega
theorem zCq(h:Sim r d)(s onto:List UInt8):(iO r s onto).2=(wL d s onto).2/\Sim (iO r s onto).1 (wL d s onto).1:=by
 unfold iO wL wsP snP;cases hn:vQ d.N s with
 | none =>
  obtain⟨h1,h2⟩:=dJ h.toSimW hn;rw[h1,h2];exact⟨rfl,h⟩
 | some n =>
  obtain⟨y,hy,h1,h2,h3,h4,h5⟩:=dK h.toSimW hn;have hy2:=h.t y hy;rw[h1,h2,h5,iV h3,eA h3];cases hf:y.1.f;rotate_left 1
  .exact⟨rfl,h⟩
  .rw [show ((0:Int)==0 && false)=false from rfl]
   simp only[Bool.false_eq_true,if_false];rw[show (!((0:Int)==0))=false from rfl]
   simp only[Bool.false_eq_true,if_false];cases hnt:vQ d.N onto with
   | none =>
    obtain⟨k1,k2⟩:=dJ h.toSimW hnt;rw[k1,k2];exact⟨rfl,h⟩
   | some m =>
    obtain⟨z,hz,k1,k2,k3,k4,k5⟩:=dK h.toSimW hnt;have hz2:=h.t z hz;rw[k1,k2,k5,iV k3,eA k3];cases hfz:z.1.f
    .exact⟨rfl,h⟩
    .rw [show ((0:Int)==0 && !true)=false from rfl]
     simp only[Bool.false_eq_true,if_false,Bool.not_true];rw[show (!((0:Int)==0))=false from rfl]
     simp only[Bool.false_eq_true,if_false];rw[nQ h.toSimW,Bool.not_not];cases hd:yF d z.1.i
     .simp only[Bool.false_eq_true,if_false];rw[h.toSimW.treeR,h.toSimW.treeR,h.toSimW.treeR,eA h3,eA k3,show zQM d y.1.i=y.1.p by unfold zQM;rw[h3],h.x]
      unfold fL;have hbk:=h.toOkW.tree y.1.p;generalize cY d y.1.p=b at hbk ⊢;cases hc1:decide (0<((bK b z.2 y.2).2.length:Int))
      .simp only[Bool.false_eq_true,if_false];cases hc2:decide (120<((bK b z.2 y.2).1.length:Int))
       .simp only[Bool.false_eq_true,if_false,Bool.false_or];rw[show (!((0:Int)==0))=false from rfl]
        simp only[Bool.false_eq_true,if_false];cases hc3:decide (2147483647<=d.x)
        .simp only[Bool.false_eq_true,if_false,true_and];simp only[decide_eq_false_iff_not] at hc1 hc2 hc3;have hok:=uQ hbk hz2 hy2 (by omega) (by omega);have hsn:aZ s=true:=by
          obtain⟨g1,g2⟩:=fU hn;rw[<- g2];exact(h.nm n g1).1
         have hlen2:(cE d.N s d.x).length<=20:=by
          obtain⟨g1,g2⟩:=fU hn;rw[<- g2,pB h.srt g1,List.length_set];exact h.ln
         refine MS h.toSimW hsn ⟨z,hz,rfl,hfz⟩ (.inl rfl) (rH hd) hok (by omega) hlen2 (by rw[eA k3]) ?_;exact Nat.le_trans (zCo h.toOkW hn hy h4 hf ⟨z,hz,rfl,hfz⟩ (rH hd) (by omega)) h.len
        .exact⟨rfl,h⟩
       .exact⟨rfl,h⟩
      .exact⟨rfl,h⟩
     .simp only[if_true];rw[JY r z.1.i (by rw[nQ h.toSimW,hd];rfl)];exact⟨rfl,h⟩
end
end Go.Dm
end
