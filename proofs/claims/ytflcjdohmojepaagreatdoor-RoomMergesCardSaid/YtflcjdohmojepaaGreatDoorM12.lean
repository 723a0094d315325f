/- Part 13 of the proof of roomMerges_card, set without needless blanks. No condition. -/
import Derived.Test.YtflcjdohmojepaaGreatDoorM11
set_option linter.all false
set_option maxRecDepth 100000
set_option maxHeartbeats 16000000
section
namespace Go.Dm
open Go
variable {p:List UInt8}{t:List It}{i:Nat}{x:It}
theorem zFs{α β:Type}{f:α->β}:∀{l:List α},(l.map f).Nodup->∀x∈l,∀y∈l,f x=f y->x=y
 | [],_,x,hx,_,_,_=>by grind
 | z::l,h,x,hx,y,hy,e=>by
  rw[List.map_cons,List.nodup_cons] at h;rcases List.mem_cons.1 hx with h1|h1<;>rcases List.mem_cons.1 hy with h2|h2
  .rw[h1,h2]
  .grind
  .simp_all
  .exact zFs h.2 x h1 y h2 e
theorem zAX{n:Nd}{b:List It}:∀{a:List It},(∀x∈a,cD x.p p=true)->xW p n false (a++b)=a++xW p n false b
 | [],_=>rfl
 | x::a,h=>by
  have hx:=h x List.mem_cons_self;have hn:=jH hx;have:=zAX (n:=n) (b:=b) λy hy=>h y (List.mem_cons_of_mem _ hy);grind [xW]
def At(t:List It)(p:List UInt8)(i:Nat):Prop:=i<=t.length/\∀k x,t[k]?=some x->(k<i->cD x.p p=true)/\(i<=k->cD x.p p=false)
theorem zGZ{n:Nd}(hs:Srt t)(h:At t p i):tP t p n=t.take i++⟨p,n⟩::(match t[i]? with|some x=>if x.p==p then t.drop (i+1) else t.drop i|none=>[]):=by
 obtain ⟨hi,h⟩:=h;have e:t=t.take i++t.drop i:=(List.take_append_drop i t).symm;have h1:∀x∈t.take i,cD x.p p=true:=λx hx=>by
  grind [List.mem_iff_getElem.1]
 unfold tP
 conv=>lhs;rw[e]
 rw[zAX h1]
 congr 1
 rcases Nat.lt_or_ge i t.length with hl|hl
 .have hx:t[i]?=some t[i]:=List.getElem?_eq_getElem hl;have hd:=drop_at hx;have hb:=(h i _ hx).2 (Nat.le_refl _);rw[hx];simp only;rw[hd,xW,hb,Bool.not_false,Bool.or_true,vK];have hdr:mM (t.drop (i+1)) p=t.drop (i+1):=List.filter_eq_self.2 λy hy=>by
   obtain⟨k,hk,rfl⟩:=List.mem_iff_getElem.1 hy;grind [List.pairwise_iff_getElem.1]
  rw[hdr];cases t[i].p==p<;>rfl
 .rw[List.getElem?_eq_none hl,List.drop_of_length_le hl];rfl
theorem HU{n:Nd}(hs:Srt t)(h:At t p i)(hx:t[i]?=some x)(hp:(x.p==p)=true):tP t p n=t.set i ⟨p,n⟩:=by
 rw[zGZ hs h,hx];simp only;rw[hp,if_pos rfl,List.set_eq_take_append_cons_drop,if_pos (List.getElem?_eq_some_iff.1 hx).1]
theorem MR{n:Nd}(hs:Srt t)(h:At t p i)(hx:∀x,t[i]?=some x->(x.p==p)=false):tP t p n=t.take i++⟨p,n⟩::t.drop i:=by
 rw[zGZ hs h]
 congr 2
 cases hq:t[i]? with
 | none=>rw[List.drop_of_length_le (List.getElem?_eq_none_iff.1 hq)]
 | some x=>simp only;rw[hx x hq,if_neg (by decide)]
def tO(a b:List UInt8)(x:It):It:=if mvd a x then ⟨b++x.p.drop a.length,x.n⟩ else x
def NH(t:List It)(a b:List UInt8):List It:=t.map (tO a b)
def fD(x:It):Bool:=!decide ((120:Int)<(x.p.length:Int))
theorem RQ{a b:List UInt8}:∀(t out:List It),(∀x∈t,mvd a x=true->fD ⟨b++x.p.drop a.length,x.n⟩=true)->(eN a b out t).2=0
 | [],_,_=>rfl
 | x::r,out,h=>by
  have hr:=λo=>RQ (a:=a) (b:=b) r o λy hy=>h y (List.mem_cons_of_mem _ hy);rw[eN];split
  .exact hr _
  .rename_i hc;have hm:mvd a x=true:=by
    have hc2:(!(x.p==a) && !aO a x.p)=false:=by simpa only[Bool.not_eq_true] using hc
    rw[mvd,hc2];rfl
   have:=h x List.mem_cons_self hm;simp only[fD,List.length_append,Bool.not_eq_true'] at this;rw[this,if_neg (by decide)];exact hr _
theorem CA{a b:List UInt8}:∀(t out:List It),(∃x∈t,mvd a x=true/\fD ⟨b++x.p.drop a.length,x.n⟩=false)->eN a b out t=([],12)
 | [],_,h=>by obtain⟨x,hx,_⟩:=h;cases hx
 | x::r,out,h=>by
  rw[eN];split
  .rename_i hc;refine CA r _ ?_;obtain⟨y,hy,h1,h2⟩:=h;rcases List.mem_cons.1 hy with rfl|hy
   .unfold mvd at h1;rw[hc] at h1;cases h1
   .exact⟨y,hy,h1,h2⟩
  .split
   .rfl
   .rename_i hl;refine CA r _ ?_;obtain⟨y,hy,h1,h2⟩:=h;rcases List.mem_cons.1 hy with rfl|hy
    .simp only[fD,List.length_append,Bool.not_eq_false'] at h2;exact absurd h2 hl
    .exact⟨y,hy,h1,h2⟩
theorem BZ{a b:List UInt8}(h:OkT t)(ha:a≠[])(hb:b≠[])(hbt:(aM t b).isSome=false):((NH t a b).map It.p).Nodup:=by
 have hno:∀y∈t,∀s,(s=[]∨∃r,s=47::r)->b++s≠y.p:=λy hy s hs e=>by
  rcases hs with rfl|⟨r,rfl⟩
  .rw[List.append_nil] at e;have:=cP h.srt hy;rw[<- e] at this;rw[this] at hbt;cases hbt
  .have h1:aO b y.p=true:=by rw[<- e];exact lM hb
   have h2:=cP h.srt hy;have:=zGt h.par hb y.p.length y.p (Nat.le_refl _) (by rw[h2];rfl) h1;rw[this] at hbt;cases hbt
 have hnd:t.Pairwise λx y=>(tO a b x).p≠(tO a b y).p:=by
  refine(List.Pairwise.imp_of_mem ?_ h.srt);intro x y hx hy hlt;have hne:=jH hlt;unfold tO;cases hmx:mvd a x<;>cases hmy:mvd a y
  .simp only[Bool.false_eq_true,if_false];intro e;rw[e] at hne;simp at hne
  .simp only[Bool.false_eq_true,if_false,if_true];obtain⟨s,e1,e2⟩:=jR ha hmy;intro e;rw[e1,List.drop_left] at e;exact hno x hx s e2 e.symm
  .simp only[Bool.false_eq_true,if_false,if_true];obtain⟨s,e1,e2⟩:=jR ha hmx;intro e;rw[e1,List.drop_left] at e;exact hno y hy s e2 e
  .simp only[if_true];obtain⟨s,e1,_⟩:=jR ha hmx;obtain⟨s',e2,_⟩:=jR ha hmy;intro e;rw[e1,e2,List.drop_left,List.drop_left,List.append_cancel_left_eq] at e;rw[e1,e2,e] at hne;simp at hne
 unfold NH;rw[List.map_map];exact List.pairwise_map.2 hnd
theorem CX(t:List It)(a:List UInt8):x∈bR t a↔x∈t/\mvd a x=false:=by
 rw[gD,List.mem_filter];unfold mvd;rw[Bool.not_eq_false']
theorem zM3{a b:List UInt8}(h:OkT t)(ha:a≠[])(hb:b≠[])(hbp:bW b=true)(hbt:(aM t b).isSome=false):
  eN a b (bR t a) t=if (NH t a b).all fD then (gN (NH t a b),0) else ([],12):=by
 have hshort:∀x∈t,fD x=true:=λx hx=>by
  have:=h.plen x hx;simp only[fD,Bool.not_eq_true',decide_eq_false_iff_not];omega
 cases hall:(NH t a b).all fD
 .rw[if_neg (by decide)];refine CA t _ ?_;obtain⟨z,hz,hzs⟩:=List.all_eq_false.1 hall;obtain⟨x,hx,rfl⟩:=List.mem_map.1 hz;have hzs:fD (tO a b x)=false:=by simpa using hzs
  unfold tO at hzs;cases hm:mvd a x
  .rw[hm,if_neg (by decide),hshort x hx] at hzs;cases hzs
  .rw[hm,if_pos rfl] at hzs;exact⟨x,hx,hm,hzs⟩
 .rw [if_pos rfl];have h0:(eN a b (bR t a) t).2=0:=RQ t _ λx hx hm=>by
   have:=List.all_eq_true.1 hall _ (List.mem_map_of_mem (f:=tO a b) hx);unfold tO at this;rw[hm,if_pos rfl] at this;exact this
  have hr:=h.toOkT0.remove a;obtain⟨k1,_⟩:=zP ha hb hbp h.its hr.srt hr.its h0;have k2:=TY (BZ h ha hb hbt);have key:(eN a b (bR t a) t).1=gN (NH t a b):=by
   refine xA k1 k2 λz=>?_;rw[(rP _).mem_iff];constructor
   .intro hz;rcases uT h0 hz with hz|⟨y,hy,hm,rfl⟩
    .obtain⟨h1,h2⟩:=(CX t a).1 hz;refine List.mem_map.2 ⟨z,h1,?_⟩;unfold tO;rw[h2];rfl
    .refine List.mem_map.2 ⟨y,hy,?_⟩;unfold tO;rw[hm];rfl
   .intro hz;obtain⟨y,hy,rfl⟩:=List.mem_map.1 hz;have got:∀q m,aM (eN a b (bR t a) t).1 q=some m->(⟨q,m⟩:It)∈(eN a b (bR t a) t).1:=λq m hg=>by
     obtain⟨x,hx,h1,h2⟩:=cB hg;rw[<- h1,<- h2];exact hx
    unfold tO;cases hm:mvd a y
    .rw [if_neg (by decide)];refine got y.p y.n ?_;rw[pU ha h0 λx hx hmx e=>?_]
     .exact cP hr.srt ((CX t a).2 ⟨hy,hm⟩)
     .have hnd:=BZ h ha hb hbt;unfold NH at hnd;rw[List.map_map] at hnd;have hxy:x≠y:=λe=>by rw[e,hm] at hmx;cases hmx
      have e1:(tO a b x).p=(tO a b y).p:=by unfold tO;rw[hmx,hm];exact e
      exact hxy (zFs (f:=It.p ∘ tO a b) hnd x hx y hy e1)
    .rw[if_pos rfl];exact got _ _ (uR ha hm h.srt h0 hy)
  exact Prod.ext key h0
end Go.Dm
namespace Go.Dm
open Go
end Go.Dm
end
section
namespace Go.Dm
open Go
structure En where
 p:List UInt8
 k:Int
 o:Bool
 n:Nd
def En.cs(x:En):List PV:=[.s x.p,.i .i64 x.k,.b x.o,.i .i64 x.n.k,.i .i64 x.n.m,.f x.n.t,.sl 1 (bU x.n.d)]
def gG(l:List En):List (List PV):=l.map En.cs
theorem KE(l:List En):(gG l).length=l.length:=by simp[gG]
theorem zIG:gG []=[]:=rfl
theorem sJ{t:List En}{k:Nat}{x:En}(h:t[k]?=some x):(gG t).getD k []=[.s x.p,.i .i64 x.k,.b x.o,.i .i64 x.n.k,.i .i64 x.n.m,.f x.n.t,.sl 1 (bU x.n.d)]:=by
 simp only[gG,List.getD_eq_getElem?_getD,List.getElem?_map,h];rfl
theorem zIH(t:List En):(∀x∈gG t,x.length=7)=True:=eq_true λx hx=>by
 obtain⟨y,_,rfl⟩:=List.mem_map.1 hx;rfl
theorem zEv(a:List En)(n:Nat):(gG a).take n=gG (a.take n):=by simp[gG]
theorem zEs(a:List En)(n:Nat):(gG a).drop n=gG (a.drop n):=by simp[gG]
theorem zAj(a b:List En):gG a++gG b=gG (a++b):=by simp[gG]
theorem zEt(t:List En)(p:List UInt8)(k:Int)(o:Bool)(nk nm:Int)(nt:Nat)(d:List UInt8):gG t++[[.s p,.i .i64 k,.b o,.i .i64 nk,.i .i64 nm,.f nt,.sl 1 (bU d)]]=gG (t++[⟨p,k,o,⟨nk,nm,nt,d⟩⟩]):=by simp[gG,En.cs]
theorem zOM(x:En):En.mk x.p x.k x.o x.n=x:=rfl
attribute [go_sem] KE zIG zIH zEv zEs zAj zEt zOM
def jF(x:En):Bool:=x.k==2 || x.n.k != 2
def pG(t:List It)(x:En):Bool:=x.o || (jF x || !bC t x.p)
def goE(t:List It)(x:En)(y:It):Bool:=y.p==x.p || (pG t x && aO x.p y.p)
def oV(t:List It)(x:En):List It:=t.filter λy=>!goE t x y
def mC(t:List It)(x:En):List It:=if x.k==2 then oV t x else tP (oV t x) x.p x.n
def fV(t:List It)(l:List En):List It:=l.foldl mC t
def sZ(t:List It)(l:List En):List It × Bool:=if kT (fV t l) then (fV t l,true) else ([],false)
theorem BV{t:List It}(h:Srt t)(x:En):Srt (oV t x):=h.filter _
theorem zGo{t:List It}(h:Srt t)(x:En):Srt (mC t x):=by
 unfold mC;split
 .exact BV h x
 .exact zU (BV h x)
theorem CJ:∀{l:List En} {t:List It},Srt t->Srt (fV t l)
 | [],_,h=>h
 | x::l,t,h=>CJ (l:=l) (zGo h x)
theorem RA(t:List It)(x:En):(oV t x).length<=t.length:=List.length_filter_le ..
theorem RZ(t:List It)(x:En):(mC t x).length<=t.length+1:=by
 have:=RA t x;have:=oL (oV t x) x.p x.n;unfold mC;split<;>omega
theorem zJE{t:List It}{x:En}:∀y∈oV t x,(y.p==x.p)=false:=λy hy=>by
 have:=(List.mem_filter.1 hy).2;simp only[goE,Bool.not_eq_true',Bool.or_eq_false_iff] at this;exact this.1
theorem zGn{t:List It}{x:En}{y:It}(h:y∈mC t x):y=⟨x.p,x.n⟩∨y∈t:=by
 unfold mC at h;split at h
 .exact .inr (List.mem_filter.1 h).1
 .rcases oJ h with h|h
  .exact .inl h
  .exact .inr (List.mem_filter.1 h).1
end Go.Dm
namespace Go.Dm
open Go
def zLs(x:En):Bool:=!(x.p == []) && (bW x.p && (if x.k==2 then !x.o && lI x.n else (x.k==1 && aR x.n) && (!x.o || x.n.k==2)))
structure OkE (l:List En):Prop where
 may:∀x∈l,zLs x=true
 srt:l.Pairwise λx y=>cD x.p y.p=true
 open_:l.Pairwise λy x=>(jF y && aO y.p x.p)=false
 tlen:∀x∈l,x.n.t<18446744073709551616
 len:l.length<=1000
theorem OkE.plen{l:List En}(h:OkE l):∀x∈l,x.p.length<=120:=λx hx=>by
 have:=h.may x hx;simp only[zLs,Bool.and_eq_true] at this;exact sQ this.2.1
theorem OkE.dlen{l:List En}(h:OkE l):∀x∈l,x.n.d.length<=2000:=λx hx=>by
 have:=h.may x hx;simp only[zLs,Bool.and_eq_true] at this;have h2:=this.2.2;split at h2
 .simp only[Bool.and_eq_true,lI,beq_iff_eq] at h2;omega
 .simp only[Bool.and_eq_true] at h2;exact iP h2.1.2
end Go.Dm
namespace Go.Dm
open Go
theorem SA(t:List It)(l:List En):∀k,(fV t (l.take k)).length<=t.length+k
 | 0=>by simp[fV]
 | k+1=>by
  have ih:=SA t l k;rcases Nat.lt_or_ge k l.length with h|h
  .have e:fV t (l.take (k+1))=mC (fV t (l.take k)) l[k]:=by
    unfold fV;rw[List.take_add_one,List.getElem?_eq_getElem h,List.foldl_append];rfl
   rw[e];have:=RZ (fV t (l.take k)) l[k];omega
  .rw[List.take_of_length_le (by omega)];rw[List.take_of_length_le (by omega)] at ih;omega
theorem CI{y:It}:∀{l:List En} {t:List It},y∈fV t l->y∈t∨∃x∈l,y=⟨x.p,x.n⟩
 | [],_,h=>.inl h
 | x::l,t,h=>by
  rcases CI (l:=l) (t:=mC t x) h with h|⟨z,hz,e⟩
  .rcases zGn h with h|h
   .exact .inr ⟨x,List.mem_cons_self,h⟩
   .exact .inl h
  .exact .inr ⟨z,List.mem_cons_of_mem _ hz,e⟩
end Go.Dm
end
section
namespace Go.Dm
open Go
def BC(ls:List (List En)):List (List PV):=ls.map λl=>[.sl 7 (gG l)]
theorem zAn(ls:List (List En)):(BC ls).length=ls.length:=by simp[BC]
theorem zIQ:BC []=[]:=rfl
theorem zMr{t:List (List En)}{k:Nat}{x:List En}(h:t[k]?=some x):(BC t).getD k []=[.sl 7 (gG x)]:=by
 simp only[BC,List.getD_eq_getElem?_getD,List.getElem?_map,h];rfl
theorem zIR(t:List (List En)):(∀x∈BC t,x.length=1)=True:=eq_true λx hx=>by
 obtain⟨y,_,rfl⟩:=List.mem_map.1 hx;rfl
theorem zEH(a:List (List En))(n:Nat):(BC a).take n=BC (a.take n):=by simp[BC]
theorem zEF(a:List (List En))(n:Nat):(BC a).drop n=BC (a.drop n):=by simp[BC]
theorem zIP(a b:List (List En)):BC a++BC b=BC (a++b):=by simp[BC]
theorem zEG(t:List (List En))(l:List En):BC t++[[.sl 7 (gG l)]]=BC (t++[l]):=by simp[BC]
attribute [go_sem] zAn zIQ zIR zEH zEF zIP zEG
def pL:List It->List (List En)->List It × Bool
 | t,[]=>(t,true)
 | t,l::r=>if (sZ t l).2 then pL (sZ t l).1 r else ([],false)
theorem zJ3{t:List It}{l:List En}(ht:OkT t)(hl:OkE l)(h:(sZ t l).2=true):OkT (sZ t l).1:=by
 unfold sZ at h ⊢;split at h
 .rename_i hr;rw[if_pos hr];refine SY (λy hy=>?_) hr;rcases CI hy with hy|⟨x,hx,rfl⟩
  .exact ht.tlen y hy
  .exact hl.tlen x hx
 .cases h
section
variable {os:List (List UInt8)}{w:List It}
def isB(l:List (List UInt8))(p:List UInt8):Bool:=l.any λq=>q==p
def zFl(t:List It)(p:List UInt8):Bool:=!(p == []) && bC t p
def VA(t w:List It)(p:List UInt8):Bool:=t.any λy=>(aM w y.p).isSome && aO p y.p
def zJY(t w:List It)(x:It):Bool:=(x.n.k==2 && (zFl t x.p && !decide (((iG t x.p).length:Int)<2))) && !VA t w x.p
def lD(t w:List It):List (List UInt8):=(w.filter (zJY t w)).map λx=>x.p
def YG(t:List It)(os:List (List UInt8))(x:It):List En :=
 if isB os x.p then [⟨x.p,1,true,x.n⟩] else if (!(aM t x.p).isSome || !cH ((aM t x.p).getD nd0) x.n) then [⟨x.p,1,false,x.n⟩] else []
def jE(t:List It)(os:List (List UInt8))(w:List It):List En:=w.flatMap (YG t os)
def zHS(w:List It)(os:List (List UInt8)):Nat->List UInt8->Bool
 | 0,_=>false
 | n+1,q=>if q == [] then false else if (!(aM w q).isSome || (((aM w q).getD nd0).k != 2 || isB os q)) then true else zHS w os n (aU q)
def NG(w:List It)(os:List (List UInt8))(p:List UInt8):Bool:=zHS w os p.length (aU p)
def zP5(l:List En)(p:List UInt8):Nat:=(l.takeWhile λx=>cD x.p p).length
def zHT(l:List En)(e:En):List En:=l.take (zP5 l e.p)++e::l.drop (zP5 l e.p)
def mB(p:List UInt8):En:=⟨p,2,false,nd0⟩
def QN(w:List It)(os:List (List UInt8))(out:List En)(y:It):List En :=
 if ((aM w y.p).isSome || NG w os y.p) then out else zHT out (mB y.p)
def eF(t w:List It):List En:=t.foldl (QN w (lD t w)) (jE t (lD t w) w)
theorem zDX(p:List UInt8):(aU p).length<=p.length:=by
 by_cases h:aU p=[]
 .rw[h];exact Nat.zero_le _
 .exact Nat.le_of_lt (uD h)
theorem zMu(l:List En)(p:List UInt8):zP5 l p<=l.length:=(List.takeWhile_sublist _).length_le
theorem zI8(l:List En)(e:En):(zHT l e).length=l.length+1:=by
 have:=zMu l e.p;simp only[zHT,List.length_append,List.length_cons,List.length_take,List.length_drop];omega
theorem zKa(t:List It)(os:List (List UInt8))(x:It):(YG t os x).length<=1:=by
 unfold YG;split
 .exact Nat.le_refl _
 .split
  .exact Nat.le_refl _
  .exact Nat.zero_le _
theorem uX(t:List It)(os:List (List UInt8)):∀w:List It,(jE t os w).length<=w.length
 | []=>Nat.le_refl _
 | x::w=>by
  have h1:=zKa t os x;have h2:=uX t os w;unfold jE at h2 ⊢;rw[List.flatMap_cons,List.length_append,List.length_cons];omega
theorem zCm{t:List It}{k:Nat}{x:It}(h:w[k]?=some x):jE t os (w.take (k+1))=jE t os (w.take k)++YG t os x:=by
 unfold jE;rw[List.take_add_one,h,List.flatMap_append];simp
theorem zFh(w:List It)(os:List (List UInt8))(out:List En)(y:It):(QN w os out y).length<=out.length+1:=by
 unfold QN;split
 .omega
 .rw[zI8];omega
theorem AL{n:Nat}{q:List UInt8}(h:q≠[]):zHS w os (n+1) q=if (!(aM w q).isSome || (((aM w q).getD nd0).k != 2 || isB os q)) then true else zHS w os n (aU q):=by
 rw[zHS,if_neg (by simpa using h)]
theorem zAd: ∀n:Nat,zHS w os n []=false
 | 0=>rfl
 | n+1=>by rw[zHS];simp
end
section
variable {t:List It}{a p:List UInt8}{l:List En}
theorem uU{b:List UInt8}(h:Par t)(hb:b≠[]):∀(n:Nat) (q:List UInt8),q.length<=n->(aM t q).isSome=true->aO b q=true->∃m,aM t b=some m/\(m.k==2)=true
 | 0,q,hl,_,hq=>by
  have h1:q=[]:=by simp_all
  have h2:=dR hq;simp_all
 | n+1,q,hl,hs,hq=>by
  obtain⟨m,hm⟩:=Option.isSome_iff_exists.1 hs;obtain⟨x,hx,rfl,_⟩:=cB hm;have hdx:=h x hx;rcases jN hb hq with h1|h1
  .grind [cS]
  .have h0:aU x.p≠[]:=by
    intro h0;have:=dR h1;simp_all
   obtain⟨m,h2,_⟩:=cS h0 hdx;have hlt:=uD h0;exact uU h hb n _ (by omega) (by rw[h2];rfl) h1
theorem PA{w:List It}{os:List (List UInt8)}(ha:a≠[]):∀(n:Nat) (q:List UInt8),q.length<=n->zHS w os n q=false->(q=a∨aO a q=true)->(∃m,aM w a=some m/\(m.k==2)=true)/\isB os a=false
 | 0,q,hl,_,hq=>by
  have h1:q=[]:=by simp_all
  rcases hq with hq|hq
  .simp_all
  .have h2:=dR hq;simp_all
 | n+1,q,hl,hc,hq=>by
  by_cases h0:q=[]
  .subst h0;rcases hq with hq|hq
   .simp_all
   .have h2:=dR hq;simp_all
  .rw [AL h0] at hc;split at hc
   .cases hc
   .rename_i h1;simp only[Bool.not_eq_true,Bool.or_eq_false_iff] at h1;obtain⟨h2,h3,h4⟩:=h1;rcases hq with rfl|hq
    .refine⟨?_,h4⟩;cases hg:aM w q with
     | none=>simp_all
     | some m=>simp_all
    .have hdl:(aU q).length<=n:=by
      grind [uD]
     exact PA ha n _ hdl hc (jN ha hq)
theorem zDN{w:List It}{os:List (List UInt8)}(ha:a≠[])(hc:NG w os p=false)(hb:aO a p=true):(∃m,aM w a=some m/\(m.k==2)=true)/\isB os a=false :=
 PA ha _ _ (zDX p) hc (jN ha hb)
theorem kQ{os:List (List UInt8)}{w:List It}{e:En}(h:e∈jE t os w):∃x∈w,e=⟨x.p,1,isB os x.p,x.n⟩:=by grind [jE,YG]
def zBc(l:List En):Prop:=l.Pairwise λx y=>cD x.p y.p=true
theorem QA(y:En)(l:List En)(e:En):zHT (y::l) e=if cD y.p e.p then y::zHT l e else e::y::l:=by grind [zHT,zP5,List.takeWhile_cons]
theorem zAp(e:En):zHT [] e=[e]:=rfl
theorem KH{e x:En}:x∈zHT l e↔x∈l∨x=e:=by
 induction l<;>grind [zAp,QA]
theorem zI9{e:En}(h:zBc l)(hn:∀x∈l,x.p≠e.p):zBc (zHT l e):=by
 induction l with
 | nil=>rw[zAp];exact List.pairwise_singleton _ _
 | cons y l ih =>
  obtain⟨h1,h2⟩:=List.pairwise_cons.1 h;rw[QA];split
  .rename_i hb;refine List.pairwise_cons.2 ⟨λx hx=>?_,ih h2 λx hx=>hn x (List.mem_cons_of_mem _ hx)⟩;grind [KH.1]
  .rename_i hb;have hlt:cD e.p y.p=true:=by grind [eI]
   refine List.pairwise_cons.2 ⟨λx hx=>?_,h⟩;grind [cL]
theorem SJ{os:List (List UInt8)}{w:List It}(h:Srt w):zBc (jE t os w):=by
 induction w with
 | nil=>exact List.Pairwise.nil
 | cons x w ih =>
  obtain⟨h1,h2⟩:=List.pairwise_cons.1 h;have e:jE t os (x::w)=YG t os x++jE t os w:=by grind [jE]
  rw [e];have hl:∀y∈YG t os x,y.p=x.p:=λy hy=>by
   have:y∈jE t os [x]:=by grind [jE]
   grind [kQ]
  refine List.pairwise_append.2 ⟨?_,ih h2,λy hy z hz=>?_⟩
  .grind [YG,List.Pairwise.nil]
  .grind [kQ]
theorem KQ{w:List It}{os:List (List UInt8)}:∀{r:List It} {out:List En},Srt r->zBc out->(∀e∈out,∀y∈r,(aM w y.p).isSome=false->e.p≠y.p) ->
  zBc (r.foldl (QN w os) out)/\∀e,e∈r.foldl (QN w os) out↔e∈out∨∃y∈r,e=mB y.p/\(aM w y.p).isSome=false/\NG w os y.p=false
 | [],out,_,h,_=>by simp_all
 | y::r,out,hr,h,hn=>by
  obtain⟨h1,h2⟩:=List.pairwise_cons.1 hr;rw[List.foldl_cons];unfold QN;split
  .rename_i hc;obtain⟨h3,h4⟩:=KQ (w:=w) (os:=os) h2 h λe he z hz=>hn e he z (List.mem_cons_of_mem _ hz);refine⟨h3,λe=>(h4 e).trans ?_⟩;grind
  .rename_i hc;simp only[Bool.not_eq_true,Bool.or_eq_false_iff] at hc;have hs:=zI9 (e:=mB y.p) h λx hx=>hn x hx y List.mem_cons_self hc.1;obtain⟨h3,h4⟩:=KQ (w:=w) (os:=os) (out:=zHT out (mB y.p)) h2 hs λe he z hz hg=>by
    grind [KH.1,mB,cF]
   refine⟨h3,λe=>(h4 e).trans ?_⟩;grind [KH]
theorem QO(w:List It)(os:List (List UInt8)):∀(r:List It) (out:List En),(r.foldl (QN w os) out).length<=out.length+r.length
 | [],out=>by simp_all
 | y::r,out=>by
  have h1:=zFh w os out y;have h2:=QO w os r (QN w os out y);grind
theorem XC{w:List It}(h:(aM w p).isSome=false):∀x∈w,Srt w->x.p≠p:=by grind [cP]
theorem oF{w:List It}(ht:OkT t)(hw:OkT w):zBc (eF t w)/\∀e,e∈eF t w↔e∈jE t (lD t w) w∨∃y∈t,e=mB y.p/\(aM w y.p).isSome=false/\NG w (lD t w) y.p=false :=
 KQ ht.srt (SJ hw.srt) λe he y _ hg=>by
  obtain⟨x,hx,rfl⟩:=kQ he;exact XC hg x hx hw.srt
theorem LO{w:List It}(hw:OkT w){x:It}(hx:x∈w)(h:isB (lD t w) x.p=true):zJY t w x=true:=by
 unfold isB lD at h;rw[List.any_eq_true] at h;obtain⟨q,hq,e⟩:=h;obtain⟨z,hz,rfl⟩:=List.mem_map.1 hq;obtain⟨hz,hb⟩:=List.mem_filter.1 hz;have e:=eq_of_beq e;have h1:=cP hw.srt hz;have h2:=cP hw.srt hx;rw[e,h2] at h1;have hn:x.n=z.n:=Option.some.inj h1;have:x=z:=by cases x;cases z;simp only at e hn;subst e;subst hn;rfl
 simp_all
theorem XS{w:List It}(ht:OkT t)(hw:OkT w):OkE (eF t w):=by
 obtain ⟨hs,hm⟩:=oF ht hw;have hc:∀e∈eF t w,(∃x∈w,e=⟨x.p,1,isB (lD t w) x.p,x.n⟩)∨∃y∈t,e=mB y.p/\(aM w y.p).isSome=false/\NG w (lD t w) y.p=false:=λe he=>by
  grind [kQ]
 refine⟨λe he=>?_,hs,List.pairwise_iff_getElem.2 λi j hi hj _=>?_,λe he=>?_,?_⟩
 .rcases hc e he with⟨x,hx,rfl⟩|⟨y,hy,rfl,_⟩
  .obtain⟨h1,h2,h3,_⟩:=hw.its x hx;have h1:(x.p == [])=false:=by simpa using h1
   simp only[zLs,h1,h2,h3,Bool.not_false,Bool.true_and,show ((1:Int)==2)=false from rfl,show ((1:Int)==1)=true from rfl,Bool.false_eq_true,if_false]
   cases ho:isB (lD t w) x.p
   .rfl
   .have:=LO hw hx ho;grind [zJY]
  .obtain⟨h1,h2,_⟩:=ht.its y hy;have h1:(y.p == [])=false:=by simpa using h1
   simp only[zLs,mB,h1,h2];rfl
 .have hy:=hc _ (List.getElem_mem hi);have hx:=hc _ (List.getElem_mem hj);generalize (eF t w)[i]=y at hy;generalize (eF t w)[j]=x at hx;cases hsh:jF y
  .rfl
  .cases hb:aO y.p x.p
   .rfl
   .exfalso;have hyp:y.p≠[]:=by
     rcases hy with⟨v,hv,rfl⟩|⟨v,hv,rfl,_⟩
     .exact hw.ne v hv
     .exact ht.ne v hv
    have hdir:∃m,aM w y.p=some m/\(m.k==2)=true:=by
     rcases hx with⟨v,hv,rfl⟩|⟨v,hv,rfl,_,h6⟩
     .exact uU hw.par hyp _ _ (Nat.le_refl _) (by rw[cP hw.srt hv];rfl) hb
     .exact(zDN hyp h6 hb).1
    obtain⟨m,h1,h2⟩:=hdir;rcases hy with⟨v,hv,rfl⟩|⟨v,hv,rfl,h5,_⟩
    .rw[show (En.mk v.p 1 (isB (lD t w) v.p) v.n).p=v.p from rfl,cP hw.srt hv] at h1
     have h1:=Option.some.inj h1;unfold jF at hsh;simp only[h1,bne,h2] at hsh;cases hsh
    .rw[show (mB v.p).p=v.p from rfl] at h1
     rw[h1] at h5;cases h5
 .rcases hc e he with⟨x,hx,rfl⟩|⟨y,hy,rfl,_⟩
  .exact hw.tlen x hx
  .show (0:Nat)<18446744073709551616;decide
 .have h1:=QO w (lD t w) t (jE t (lD t w) w);have h2:=uX t (lD t w) w;have h3:=ht.len;have h4:=hw.len;unfold eF;omega
end
def JJ:En:=⟨[],0,false,nd0⟩
def En.cv(x:En):List CV:=[.p (.s x.p),.p (.i .i64 x.k),.p (.b x.o),.p (.i .i64 x.n.k),.p (.i .i64 x.n.m),.p (.f x.n.t),.p (.sl 1 (bU x.n.d))]
def jJ(l:List En)(p:List UInt8):Option En:=l.find? λx=>x.p==p
def shF(l:List En):Nat->List UInt8->Bool
 | 0,_=>false
 | n+1,q=>if q == [] then false else if ((jJ l q).isSome && (((jJ l q).getD JJ).k==2 || (((jJ l q).getD JJ).o || ((jJ l q).getD JJ).n.k != 2))) then true else shF l n (aU q)
def zG1(l:List En)(p:List UInt8):Bool:=shF l p.length (aU p)
theorem zKx{l:List En}{n:Nat}{q:List UInt8}(h:q≠[]):shF l (n+1) q=if ((jJ l q).isSome && (((jJ l q).getD JJ).k==2 || (((jJ l q).getD JJ).o || ((jJ l q).getD JJ).n.k != 2))) then true else shF l n (aU q):=by
 rw[shF,if_neg (by simpa using h)]
theorem zNp{l:List En}:∀n:Nat,shF l n []=false
 | 0=>rfl
 | n+1=>by rw[shF];simp
def zMp(l:List (List RI)):List (List PV):=l.map λx=>[.sl 6 (encI x)]
def zMs(l:List (List RU)):List (List PV):=l.map λx=>[.sl 8 (encU x)]
def WW(l:List (List It)):List (List PV):=l.map λx=>[.sl 5 (aS x)]
theorem zED(l:List (List RI)):(zMp l).length=l.length:=by simp[zMp]
theorem zE0(l:List (List RU)):(zMs l).length=l.length:=by simp[zMs]
theorem zEX(l:List (List It)):(WW l).length=l.length:=by simp[WW]
theorem zEE(t:List (List RI)):(∀x∈zMp t,x.length=1)=True:=eq_true λx hx=>by
 obtain⟨y,_,rfl⟩:=List.mem_map.1 hx;rfl
theorem zE1(t:List (List RU)):(∀x∈zMs t,x.length=1)=True:=eq_true λx hx=>by
 obtain⟨y,_,rfl⟩:=List.mem_map.1 hx;rfl
theorem zEZ(t:List (List It)):(∀x∈WW t,x.length=1)=True:=eq_true λx hx=>by
 obtain⟨y,_,rfl⟩:=List.mem_map.1 hx;rfl
theorem zBJ(t:List (List It))(l:List It):WW t++[[.sl 5 (aS l)]]=WW (t++[l]):=by simp[WW]
theorem zEY:WW []=[]:=rfl
attribute [go_sem] zED zE0 zEX zEE zE1 zEZ zBJ zEY
end Go.Dm
end
