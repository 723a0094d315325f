/- Part 7 of roomPlays_card. No condition. -/
import Derived.Test.YtfcindonokhbeaaGreatDoorP05
import Derived.Test.YtfcindonokhbeaaGreatDoorP04
import Derived.ChangeBears2
import Derived.MakeChecks
set_option linter.all false
set_option maxRecDepth 100000
set_option maxHeartbeats 0
section
section
namespace Go.Dm
open Go
section
variable {t:Bl}
theorem cD: ∀a:Ba,cC a a=false
 | []=>rfl
 | x::a=>by
  show (decide (x<x) || (x==x && cC a a))=false;simp[cD a]
theorem wT(x y:UInt8)(a b:Ba):cC (x::a) (y::b)=(decide (x<y) || (x==y && cC a b)):=rfl
theorem NI(a:Ba):cC a []=false:=by cases a<;>rfl
theorem cO: ∀{a b c:Ba},cC a b=true->cC b c=true->cC a c=true
 | _,[],_,h,_=>by grind [NI]
 | _,_::_,[],_,h=>by grind [NI]
 | [],_::_,_::_,_,_=>rfl
 | x::a,y::b,z::c,e,f=>by
  rw[wT] at *;simp only[fj,bn,ew,dq] at *;rcases e with e|⟨rfl,e⟩<;>rcases f with f|⟨rfl,f⟩
  .grind
  .simp_all
  .simp_all
  .exact .inr ⟨rfl,cO e f⟩
theorem fM: ∀{a b:Ba},cC a b=false->cC b a=false->a=b
 | [],[],_,_=>rfl
 | [],_::_,h,_=>by cases h
 | _::_,[],_,h=>by cases h
 | x::a,y::b,i,j=>by
  rw[wT] at *;have e:x=y:=by grind
  subst e;have f:cC a b=false:=qw
  have g:cC b a=false:=qw
  rw[fM f g]
theorem fL{a b:Ba}(h:cC a b=true):cC b a=false:=by grind [cO,cD]
theorem mO{a b:Ba}(h:cC a b=true):(a==b)=false:=by grind [cD]
abbrev Srt(t:Bl):Prop:=t.Pairwise λx y=>cC x.p y.p=true
theorem qT{p:Ba}{n:Nd}{y:It}:∀{t:Bl} {d:Bool},y∈zV p n d t->y=⟨p,n⟩∨y∈t
 | [],d,h=>by grind [zV]
 | x::r,d,h=>by
  simp only[zV,c9] at h;rcases h with h|h|h
  .simp_all
  .simp_all
  .rcases qT h with h|h
   .exact .inl h
   .simp_all
theorem yG(p:Ba)(n:Nd):∀t:Bl,zV p n true t=oV t p
 | []=>rfl
 | x::r=>by
  simp only[zV,bh,dp,e8,av,ax,e9,yG p n r,oV,fc];split<;>rfl
theorem CX{p:Ba}{n:Nd}:∀{t:Bl},Srt t->Srt (wL t p n)
 | [],_=>by simp[wL,zV]
 | x::r,h=>by
  have e:=dx.1 h;unfold wL;cases a:cC x.p p
  .grind [zV,yG,oV,fM,cO]
  .simp only[zV,a,bh,gz,av,ax,dn,e9,mO a,br,az,List.singleton_append];refine dx.2 ⟨λy b=>?_,CX e.2⟩;rcases qT b with rfl|b
   .exact a
   .simp_all
def OkI(x:It):Prop:=x.p≠[]/\bZ x.p=true/\aO x.n=true/\x.n.t<18446744073709551616
structure OkT0 (t:Bl):Prop where
 srt:Srt t
 its:∀x∈t,OkI x
 len:t.length<=120
theorem OkT0.nil: OkT0 []:=⟨List.Pairwise.nil,λx h=>by simp at h,ql⟩
theorem vS{p:Ba}(h:bZ p=true):p.length<=120:=by grind [bZ]
theorem kS{n:Nd}(h:aO n=true):n.d.length<=2000:=by grind [aO,gZ]
theorem OkT0.plen(h:OkT0 t):∀x∈t,x.p.length<=120:=λx a=>vS (h.its x a).2.1
theorem OkT0.dlen(h:OkT0 t):∀x∈t,x.n.d.length<=2000:=λx a=>kS (h.its x a).2.2.1
theorem OkT0.filter(h:OkT0 t)(f:It->Bool):OkT0 (t.filter f) :=
 ⟨h.srt.filter _,λx a=>h.its x (dy.1 a).1,bj (ei ..) h.len⟩
theorem OkT0.remove(h:OkT0 t)(p:Ba):OkT0 (bU t p):=(h.filter _).filter _
theorem OkT0.tlen(h:OkT0 t):∀x∈t,x.n.t<18446744073709551616:=λx a=>(h.its x a).2.2.2
theorem OkT0.put{p:Ba}{n:Nd}(h:OkT0 t)(e:n.t<18446744073709551616)(a:(vB t p n).2=0):OkT0 (vB t p n).1:=by
 have f:OkT0 (if n.k != 2 then bN t p else t):=by split;exact h.filter _;exact h
 unfold vB at a ⊢;generalize (if n.k != 2 then bN t p else t)=u at a f ⊢
 split at a
 .cases a
 .rename_i b;split at a
  .cases a
  .rename_i i;split at a
   .cases a
   .rename_i j;rw[au b,au i,au j];simp only[fj,jo,dq,dg,l9] at b;refine⟨CX f.srt,λx g=>?_,?_⟩
    .rcases qT g with rfl|g
     .exact⟨b.1.1,b.1.2,b.2,e⟩
     .exact f.its x g
    .grind
theorem CA(r:Ba):∀(s w:Ba),BZ w (s++47::r)=BZ w s++BZ [] r
 | [],w=>by simp[BZ]
 | b::s,w=>by
  simp only[gn,BZ];split
  .rw[CA r s []];rfl
  .rw[CA r s (w++[b])]
theorem jE{a q:Ba}(b:a≠[])(h:aT a q=true):∃r,q=a++47::r:=by grind [aT,List.take_append_drop]
theorem OkI.moved{a b:Ba}{x:It}(o:a≠[])(q:b≠[])(s:bZ b=true)(i:OkI x)(k:(!(x.p==a) && !aT a x.p)=false)(u:¬ decide ((120:Int)<(b.length+(x.p.drop a.length).length:Nat))=true):OkI ⟨b++x.p.drop a.length,x.n⟩:=by
 refine⟨by simp[q],?_,i.2.2⟩
 simp only[ew] at u;have v:(b++x.p.drop a.length).length<=120:=by rw[bo];omega
 have f:(rL b).all bB=true:=by
  grind [bZ]
 have e:(rL x.p).all bB=true:=by
  have h:=i.2.1;unfold bZ at h;have:(x.p == [])=false:=by simpa using i.1
  rw[this,dw,bn] at h;exact h.1
 unfold bZ;simp only[fj,bn,ew];refine .inr ⟨?_,qd⟩
 cases l:x.p==a
 .rw[l] at k;have j:aT a x.p=true:=by simpa using k
  obtain⟨r,m⟩:=jE o j;have g:x.p.drop a.length=47::r:=by rw[m];simp
  rw[g];rw[m] at e;unfold rL at e f ⊢;rw[CA,ly,bn] at e;rw[CA,ly,f,e.2];rfl
 .have g:x.p.drop a.length=[]:=by rw[eq_of_beq l];simp
  rw[g,dh];exact f
theorem CS{a b:Ba}(l:a≠[])(m:b≠[])(e:bZ b=true):∀{t out:Bl},(∀x∈t,OkI x)->Srt out->(∀x∈out,OkI x)->(fW a b out t).2=0->Srt (fW a b out t).1/\(∀x∈(fW a b out t).1,OkI x)
 | [],out,_,i,j,_=>⟨i,j⟩
 | x::r,out,q,i,j,f=>by
  have s:∀y∈r,OkI y:=λy g=>q y (cu _ g);rw[fW] at f ⊢;split at f
  .rename_i k;rw[aw k];exact CS l m e s i j f
  .rename_i k;split at f
   .cases f
   .rename_i u;rw[au k,au u];have n:(!(x.p==a) && !aT a x.p)=false:=by simpa using k
    have o:=(q x cz).moved l m e n u;refine CS l m e s (CX i) (λy g=>?_) f;rcases qT g with rfl|g
    .exact o
    .exact j y g
def mvd(a:Ba)(x:It):Bool:=!(!(x.p==a) && !aT a x.p)
theorem FN{a b:Ba}:∀(t out:Bl),(fW a b out t).1.length<=out.length+(t.filter (mvd a)).length
 | [],out=>by simp[fW]
 | x::r,out=>by
  cases e:mvd a x
  .have f:(!(x.p==a) && !aT a x.p)=true:=by simpa only[mvd,kd] using e
   rw[fW,aw f,fc,au (by rw[e];decide)];exact FN r out
  .have f:¬ (!(x.p==a) && !aT a x.p)=true:=by simp only[mvd,dg] at e;rw[e];decide
   rw[fW,au f,fc,aw e,bw];split
   .simp_all
   .have g:=FN (a:=a) (b:=b) r (wL out (b++x.p.drop a.length) x.n);grind [qV]
theorem xY(a:Ba):∀t:Bl,(bU t a).length+(t.filter (mvd a)).length=t.length
 | []=>rfl
 | x::r=>by
  have h:=xY a r;grind [bU,oV,bN,mvd]
theorem OkT0.move{a b:Ba}(h:OkT0 t)(e:(mA t a b).2=0):OkT0 (mA t a b).1:=by
 unfold mA at e ⊢;split at e
 .cases e
 .rename_i f;rw[au f];split at e
  .cases e
  .rename_i i;rw[au i];split at e
   .cases e
   .rename_i j;rw[au j];split at e
    .cases e
    .rename_i k;rw[au k];split at e
     .cases e
     .rename_i l;rw[au l];simp only[fj,jo,dq,dg,l9] at f;have g:=h.remove a;obtain⟨m,n⟩:=CS f.1.1.1 f.1.1.2 f.2 h.its g.srt g.its e;refine⟨m,n,?_⟩;have o:=FN (a:=a) (b:=b) t (bU t a);have p:=xY a t;have q:=h.len;omega
end
section
variable {d:Ba}{t:Bl}
theorem cP{p:Ba}{n:Nd}:∀{t:Bl},aN t p=some n->∃x∈t,x.p=p/\x.n=n
 | [],h=>by grind [aN]
 | x::r,h=>by
  rw[aN] at h;split at h
  .simp_all
  .obtain⟨y,a,b⟩:=cP h;grind
def Par(t:Bl):Prop:=∀x∈t,aZ t (aU x.p)=true
theorem kR(p:Ba):∀k,k<=p.length->(cS p k=none/\∀j (h:j<p.length),j<k->p[j]≠47)∨(∃i,∃h:i<p.length,cS p k=some i/\i<k/\p[i]=47/\∀j (h:j<p.length),i<j->j<k->p[j]≠47)
 | 0,_=>.inl ⟨rfl,λj _ h=>by omega⟩
 | k+1,s=>by
  have a:k<p.length:=qd
  have o:p.getD k 0=p[k]:=by simp[ed,a]
  rw[cS,o];by_cases b:p[k]=47
  .rw[b,aw qh];exact .inr ⟨k,a,rfl,qd,b,λj h e f=>by omega⟩
  .have:¬ ((p[k].toNat:Int)==47)=true:=by
    intro h;have h:=eq_of_beq h;exact b (kl.1 (by have:(47:UInt8).toNat=47:=rfl;omega))
   rw[au this];rcases kR p k qd with⟨e,f⟩|⟨i,h,e,f,q,r⟩
   .refine .inl ⟨e,λj g l=>?_⟩;rcases cc j k with h|h
    .exact f j g h
    .have:j=k:=qd
     subst this;exact b
   .refine .inr ⟨i,h,e,qd,q,λj g m l=>?_⟩
    rcases cc j k with n|n
    .exact r j g m n
    .have:j=k:=qd
     subst this;exact b
theorem CE(p:Ba):(aU p=[]/\47 ∉ p)∨∃n,p=aU p++47::n/\47 ∉ n:=by
 unfold aU;rcases kR p p.length (bg _) with⟨a,b⟩|⟨i,h,a,b,e,f⟩
 .rw[a];grind [List.mem_iff_getElem.1]
 .rw[a];refine .inr ⟨p.drop (i+1),?_,λg=>?_⟩
  .grind [List.take_append_drop,List.drop_eq_getElem_cons]
  .grind [List.mem_iff_getElem.1]
theorem ZG{n d' n':Ba}(h:d++47::n=d'++47::n')(f:47 ∉ n)(a:47 ∉ n'):d=d'/\n=n':=by
 rcases List.append_eq_append_iff.1 h with⟨c,b,e⟩|⟨c,b,e⟩
 .cases c with
  | nil=>simp_all
  | cons x c =>
   simp_all
 .cases c with
  | nil=>simp_all
  | cons x c =>
   simp_all
theorem zRD{n:Ba}(a:47 ∉ n):aU (d++47::n)=d:=by grind [CE,ZG]
theorem xC{p:Ba}(h:aU p≠[]):∃n,p=aU p++47::n/\47 ∉ n:=by grind [CE]
theorem pX{a r:Ba}(b:a≠[]):aT a (a++47::r)=true:=by grind [aT]
theorem zFo{a q:Ba}(b:a≠[]):aT a q=true↔∃r,q=a++47::r:=by grind [jE,pX]
theorem gB{a q:Ba}(b:a≠[])(e:aU q≠[])(h:aU q=a∨aT a (aU q)=true):aT a q=true:=by grind [xC,pX,jE]
theorem lU{a q:Ba}(i:a≠[])(h:aT a q=true):aU q=a∨aT a (aU q)=true:=by
 obtain⟨r,b⟩:=jE i h;rcases CE q with⟨_,e⟩|⟨n,e,j⟩
 .exact absurd (by rw[b];simp) e
 .rw [b] at e;rcases List.append_eq_append_iff.1 e with⟨c,f,g⟩|⟨c,f,g⟩
  .cases c with
   | nil=>left;rw[b];simpa using f
   | cons x c =>
    grind [List.cons.injEq,pX]
  .cases c with
   | nil=>left;rw[b];simpa using f.symm
   | cons x c =>
    simp only[gn,fk] at g;exact absurd (by rw[g.2];simp) j
theorem uU{p:Ba}(h:aU p≠[]):(aU p).length<p.length:=by grind [xC]
theorem iT(g:Ba->Bool)(q:Ba):∀t:Bl,aN (t.filter λx=>g x.p) q=if g q then aN t q else none
 | []=>by simp[aN]
 | x::r=>by
  rw[fc];by_cases a:x.p=q
  .subst a;cases e:g x.p
   .simp only[av,ax];have:=iT g x.p r;simp_all
   .simp[aN]
  .have b:(x.p==q)=false:=by simpa using a
   split
   .simp only[aN,b,av,ax];exact iT g q r
   .simp only[aN,b,av,ax];exact iT g q r
theorem iK(t:Bl)(p:Ba):bU t p=t.filter λx=>!(x.p==p) && !aT p x.p:=by grind [bU,oV,bN,List.filter_filter]
theorem ER(t:Bl)(p q:Ba):aN (bU t p) q=if (!(q==p) && !aT p q) then aN t q else none:=by
 rw[iK];exact iT (λq=>!(q==p) && !aT p q) q t
theorem JD(t:Bl)(p q:Ba):aN (bN t p) q=if !aT p q then aN t q else none:=iT (λq=>!aT p q) q t
theorem VV{p q:Ba}(h:(q==p)=false)(t:Bl):aN (oV t p) q=aN t q:=by
 unfold oV;rw[iT (λq=>!(q==p)) q t,h];rfl
theorem VX{p q:Ba}{n:Nd}:∀t:Bl,aN (zV p n false t) q=if q==p then some n else aN t q
 | []=>by
  grind [zV,aN]
 | x::r=>by
  simp only[zV,br,cy,dw];cases a:cC x.p p
  .grind [aN,yG,VV]
  .have b:=VX (p:=p) (q:=q) (n:=n) r;grind [aN]
theorem sB{p q:Ba}{n:Nd}(t:Bl):aN (wL t p n) q=if q==p then some n else aN t q:=VX t
theorem dF{q:Ba}(a:q≠[])(h:aZ t q=true):∃m,aN t q=some m/\m.k=2:=by grind [aZ]
theorem iN{q:Ba}{m:Nd}(h:aN t q=some m)(a:m.k=2):aZ t q=true:=by grind [aZ]
theorem Par.remove(h:Par t)(f:∀x∈t,x.p≠[])(p:Ba):Par (bU t p):=by
 intro x b;rw[iK,dy] at b;obtain⟨b,a⟩:=b;by_cases e:aU x.p=[]
 .rw[e];rfl
 obtain⟨m,j,k⟩:=dF e (h x b);refine iN (m:=m) ?_ k;rw[ER,j];simp only[bn,dg] at a;by_cases g:p=[]
 .subst g;have:=f x b;simp[aT,this] at a
 have l:(aU x.p==p)=false:=by
  cases i:aU x.p==p
  .rfl
  .rw[gB g e (.inl (eq_of_beq i))] at a;cases a.2
 have n:aT p (aU x.p)=false:=by
  cases i:aT p (aU x.p)
  .rfl
  .rw[gB g e (.inr i)] at a;cases a.2
 rw[l,n];rfl
theorem Par.set{u:Bl}{p:Ba}{n:Nd}(h:Par t)(i:p≠[])(j:aZ t (aU p)=true)(f:u=if n.k != 2 then bN t p else t):Par (wL u p n):=by
 have g:∀q,q≠[]->q≠p->(n.k≠2->aT p q=false)->∀m,aN t q=some m->aN (wL u p n) q=some m:=by grind [sB,JD]
 intro x a;by_cases e:aU x.p=[]
 .rw[e];rfl
 rcases qT a with rfl|a
 .grind [dF,uU,iN,aT,aU,eR]
 .have b:x∈t/\(n.k≠2->aT p x.p=false):=by
   rw[f] at a;split at a
   .have:=dy.1 a;simp_all
   .simp_all
  obtain⟨m,l,o⟩:=dF e (h x b.1);grind [gB,iN,sB]
theorem zIH{b:Ba}(h:Par t)(i:b≠[]):∀(n:Nat) (q:Ba),q.length<=n->(aN t q).isSome=true->aT b q=true->(aN t b).isSome=true
 | 0,q,k,_,e=>by
  have a:q=[]:=qw
  have j:=eR e;simp_all
 | n+1,q,k,l,e=>by
  obtain⟨m,o⟩:=l5.1 l;obtain⟨x,r,rfl,_⟩:=cP o;have f:=h x r;rcases lU i e with a|a
  .grind [dF]
  .have g:aU x.p≠[]:=by
    intro g;have:=eR a;simp_all
   obtain⟨m,j,_⟩:=dF g f;have s:=uU g;exact zIH h i n _ qd (by rw[j];rfl) a
theorem xN{a b:Ba}{z:It}:∀{t out:Bl},(fW a b out t).2=0->z∈(fW a b out t).1->z∈out∨∃y∈t,mvd a y=true/\z=⟨b++y.p.drop a.length,y.n⟩
 | [],out,_,h=>.inl h
 | x::r,out,e,h=>by
  rw[fW] at e h;split at e
  .rename_i f;rw[aw f] at h;rcases xN e h with h|⟨y,g,h⟩
   .exact .inl h
   .grind
  .rename_i f;split at e
   .cases e
   .rename_i i;rw[au f,au i] at h;have j:mvd a x=true:=by grind [mvd]
    rcases xN e h with h|⟨y,g,h⟩
    .rcases qT h with rfl|h
     .simp_all
     .exact .inl h
    .grind
theorem nY{a:Ba}(b:a≠[]){y:It}(h:mvd a y=true):∃s,y.p=a++s/\(s=[]∨∃r,s=47::r):=by grind [mvd,jE]
theorem sG{a b:Ba}(j:a≠[]){q:Ba}:∀{t out:Bl},(fW a b out t).2=0->(∀y∈t,mvd a y=true->b++y.p.drop a.length≠q)->aN (fW a b out t).1 q=aN out q
 | [],_,_,_=>rfl
 | x::r,out,f,h=>by
  have k:∀y∈r,mvd a y=true->b++y.p.drop a.length≠q:=λy l=>h y (cu _ l);rw[fW] at f ⊢;split at f
  .rename_i g;rw[aw g];exact sG j f k
  .rename_i g;split at f
   .cases f
   .rename_i m;rw[au g,au m,sG j f k,sB];have n:mvd a x=true:=by
     have i:(!(x.p==a) && !aT a x.p)=false:=by simpa only[ny] using g
     rw[mvd,i];rfl
    have:=h x cz n;have e:(q==b++x.p.drop a.length)=false:=by simpa using λe=>this e.symm
    rw[e];rfl
theorem xM{a b:Ba}(j:a≠[]){y:It}(k:mvd a y=true):∀{t out:Bl},Srt t->(fW a b out t).2=0->y∈t->aN (fW a b out t).1 (b++y.p.drop a.length)=some y.n
 | x::r,out,l,e,f=>by
  obtain⟨m,g⟩:=dx.1 l;rw[fW] at e ⊢;split at e
  .rename_i i;rw[aw i];rcases bx.1 f with rfl|f
   .grind [mvd]
   .exact xM j k g e f
  .rename_i i;split at e
   .cases e
   .rename_i o;rw[au i,au o];rcases bx.1 f with rfl|f
    .grind [sG,sB,nY,List.append_cancel_left_eq,cD]
    .exact xM j k g e f
theorem Par.move{a b:Ba}(h:Par t)(V:Srt t)(W:∀x∈t,x.p≠[])(f:a≠[])(S:b≠[])(i:aT a b=false)(X:(aN t b).isSome=false)(I:aZ t (aU b)=true)(Y:a≠b)
 (J:(fW a b (bU t a) t).2=0):Par (fW a b (bU t a) t).1:=by
 have j:∀q m,q≠[]->aN t q=some m->(q==a)=false->aT a q=false->aN (fW a b (bU t a) t).1 q=some m:=by
  intro q m e H g k;rw[sG f J,ER,g,k];· simpa using H
  intro y T K u;obtain⟨s,v,L⟩:=nY f K;rw[v,ko] at u;rcases L with rfl|⟨r,rfl⟩
  .rw[dh] at u;simp_all
  .have:=zIH h S q.length q (bg _) (by rw[H];rfl) (by rw[<- u];exact pX S);simp_all
 have Z:∀x∈t,(x.p==a)=false->aT a x.p=false->aZ (fW a b (bU t a) t).1 (aU x.p)=true:=by
  intro x hx g k;by_cases e:aU x.p=[]
  .rw[e];rfl
  obtain⟨m,A,B⟩:=dF e (h x hx);refine iN (j _ m e A ?_ ?_) B
  .cases l:aU x.p==a
   .rfl
   .rw[gB f e (.inl (eq_of_beq l))] at k;cases k
  .cases l:aT a (aU x.p)
   .rfl
   .rw[gB f e (.inr l)] at k;cases k
 intro z o;rcases xN J o with o|⟨y,T,H,rfl⟩
 .rw[iK,dy] at o;obtain⟨o,M⟩:=o;simp only[bn,dg] at M;exact Z z o M.1 M.2
 .obtain ⟨s,v,L⟩:=nY f H;simp only[v,ko];rcases L with rfl|⟨r,rfl⟩
  .rw [dh];by_cases e:aU b=[]
   .rw[e];rfl
   obtain⟨m,A,B⟩:=dF e I;refine iN (j _ m e A ?_ ?_) B
   .cases l:aU b==a
    .rfl
    .rw[gB f e (.inl (eq_of_beq l))] at i;cases i
   .cases l:aT a (aU b)
    .rfl
    .rw[gB f e (.inr l)] at i;cases i
  ·
   have C:aT a y.p=true:=by rw[v];exact pX f
   have e:aU y.p≠[]:=by
    rcases lU f C with g|g
    .rw[g];exact f
    .intro k;rw[k] at g;have:=eR g;have:a=[]:=by simpa using this
     exact absurd this f
   obtain ⟨m,A,B⟩:=dF e (h y T);obtain⟨w,hw,D,N⟩:=cP A;have E:mvd a w=true:=by
    unfold mvd;rw[D];rcases lU f C with g|g
    .rw[g];simp
    .rw[g];simp
   have F:=xM (b:=b) (out:=bU t a) f E V J hw;obtain⟨s',O,_⟩:=nY f E;obtain⟨n,U,G⟩:=xC e;have u:aU (b++47::r)=b++w.p.drop a.length:=by
    rw[O,ko];rw[D] at O;rw[O,v,gf] at U;have R:(47::r:Ba)=s'++47::n:=List.append_cancel_left U;rw[R,<- gf];exact zRD G
   rw[u];exact iN F (by rw[N];exact B)
end
section
variable {t:Bl}
structure OkT (t:Bl):Prop extends OkT0 t where
 par:Par t
theorem OkT.nil: OkT []:=⟨OkT0.nil,λx h=>by simp at h⟩
theorem OkT.ne(h:OkT t):∀x∈t,x.p≠[]:=λx a=>(h.its x a).1
theorem OkT.plen(h:OkT t):∀x∈t,x.p.length<=120:=h.toOkT0.plen
theorem OkT.dlen(h:OkT t):∀x∈t,x.n.d.length<=2000:=h.toOkT0.dlen
theorem OkT.tlen(h:OkT t):∀x∈t,x.n.t<18446744073709551616:=h.toOkT0.tlen
theorem OkT.remove(h:OkT t)(p:Ba):OkT (bU t p):=⟨h.toOkT0.remove p,h.par.remove h.ne p⟩
theorem OkT.put{p:Ba}{n:Nd}(h:OkT t)(b:n.t<18446744073709551616)(a:(vB t p n).2=0):OkT (vB t p n).1:=by
 refine⟨h.toOkT0.put b a,?_⟩;unfold vB at a ⊢;generalize g:(if n.k != 2 then bN t p else t)=u at a ⊢
 split at a
 .cases a
 .rename_i e;split at a
  .cases a
  .rename_i f;split at a
   .cases a
   .rename_i i;rw[au e,au f,au i];simp only[fj,jo,dq,dg,l9] at e f;exact h.par.set e.1.1 f g.symm
theorem OkT.move{a b:Ba}(h:OkT t)(f:(mA t a b).2=0):OkT (mA t a b).1:=by
 refine⟨h.toOkT0.move f,?_⟩;unfold mA at f ⊢;split at f
 .cases f
 .rename_i g;rw[au g];split at f
  .cases f
  .rename_i l;rw[au l];split at f
   .cases f
   .rename_i i;rw[au i];split at f
    .cases f
    .rename_i j;rw[au j];split at f
     .cases f
     .rename_i k;rw[au k];simp only[fj,jo,dq,dg,l9] at g l i j k;refine h.par.move h.srt h.ne g.1.1.1 g.1.1.2 (by simpa using i) (by simpa using j) k (λe=>?_) f;simp_all
end
section
variable {P:Program}{X0:Ctx}{Q:Be}{c:Code}{t:Bl}{h:aF}
theorem zSK{s:DS}(i k:Nat)(f:look s.t i=.c (.p .nil))(h:SWP P X0 c ⟨s.n,(i,.c (.p (.sl k [])))::s.t,s.h⟩ Q):SWP P X0 c s Q:=by
 intro g X a l m o b;refine h g X a l m o ⟨b.size,λj=>?_,b.defs⟩;simp only[look];split
 .rename_i e;subst e;have:=b.rel j;rw[f] at this;exact wkD.rel (x:=.c (.p .nil)) (y:=.c (.p (.sl k []))) zKi this
 .exact b.rel j
theorem zS3{n:Nat}{t:Fr}(i k:Nat)(a:look t i=.c (.p .nil))(b:SWP P X0 c ⟨n,(i,.c (.p (.sl k [])))::t,h⟩ Q):SWP P X0 c ⟨n,t,h⟩ Q :=
 zSK i k a b
def zKh: Bi->Bi->Prop
 | [],[]=>True
 | x::a,y::b=>wkD x y/\zKh a b
 | _,_=>False
theorem zKh.rel{X:Ctx}:∀{b e:Bi} {vs:Bb},zKh b e->eC X b vs->eC X e vs
 | [],[],_,_,h=>h
 | _::_,_::_,_::_,h,a=>⟨wkD.rel h.1 a.1,zKh.rel h.2 a.2⟩
 | _::_,_::_,[],_,a=>a.elim
theorem aA.wkargs{f:FuncId}{args args':Bi}{R:Bd}(a:zKh args args')(b:aA P f args' h R):aA P f args h R :=
 λX vals e g i j=>b X vals e g i (zKh.rel a j)
theorem OkT.getd(h:OkT t)(p:Ba):((aN t p).getD nd0).d.length<=2000:=by
 cases a:aN t p with
 | none=>simp[nd0]
 | some n =>
  obtain⟨x,b,_,rfl⟩:=cP a;exact h.dlen x b
theorem OkT.gett(h:OkT t)(p:Ba):((aN t p).getD nd0).t<18446744073709551616:=by
 cases a:aN t p with
 | none=>simp[nd0]
 | some n =>
  obtain⟨x,b,_,rfl⟩:=cP a;exact h.tlen x b
def xI(p q:Bool)(x y:Nd):Int:=if p then (if q then (if uX x y then 0 else if x.k != y.k then 4 else if !(x.d==y.d) then 3 else 5) else 2) else (if q then 1 else 0)
structure RI where
 p:Int
 n:RN
def RI.cs(x:RI):List PV:=[.i .i64 x.p,.i .i64 x.n.k,.i .i64 x.n.m,.i .i64 x.n.t,.f x.n.x,.sl 1 (bS x.n.d)]
def encI(l:List RI):Bc:=l.map RI.cs
theorem zLl(l:List RI):(encI l).length=l.length:=by simp[encI]
theorem zLm(t:List RI):(∀x∈encI t,x.length=6)=True:=fr λx a=>by
 simp only[encI,cg] at a;obtain⟨y,_,rfl⟩:=a;rfl
structure RU where
 what:Int
 at':Int
 to':Int
 n:RN
def RU.cs(x:RU):List PV:=[.i .i64 x.what,.i .i64 x.at',.i .i64 x.to',.i .i64 x.n.k,.i .i64 x.n.m,.i .i64 x.n.t,.f x.n.x,.sl 1 (bS x.n.d)]
def zRV(l:List RU):Bc:=l.map RU.cs
theorem zLJ(l:List RU):(zRV l).length=l.length:=by simp[zRV]
theorem zLK(t:List RU):(∀x∈zRV t,x.length=8)=True:=fr λx a=>by
 simp only[zRV,cg] at a;obtain⟨y,_,rfl⟩:=a;rfl
theorem zSE(x:RN):RN.mk x.k x.m x.t x.x x.d=x:=rfl
attribute [go_sem] zSE zLl zLm zLJ zLK
structure Ch where
 p:Ba
 k:Int
 o:Nd
 n:Nd
abbrev Bh:=List Ch
def Ch.cs(x:Ch):List PV:=[.s x.p,.i .i64 x.k,.i .i64 x.o.k,.i .i64 x.o.m,.f x.o.t,.sl 1 (bS x.o.d),.i .i64 x.n.k,.i .i64 x.n.m,.f x.n.t,.sl 1 (bS x.n.d)]
def jD(l:Bh):Bc:=l.map Ch.cs
theorem zLa(l:Bh):(jD l).length=l.length:=by simp[jD]
theorem zB3: jD []=[]:=rfl
theorem zK9(a b:Bh):jD a++jD b=jD (a++b):=by simp[jD]
theorem zGy(a:Bh)(n:Nat):(jD a).take n=jD (a.take n):=by simp[jD]
theorem zGw(a:Bh)(n:Nat):(jD a).drop n=jD (a.drop n):=by simp[jD]
theorem jK{t:Bh}{k:Nat}{x:Ch}(h:t[k]?=some x):(jD t).getD k []=[.s x.p,.i .i64 x.k,.i .i64 x.o.k,.i .i64 x.o.m,.f x.o.t,.sl 1 (bS x.o.d),.i .i64 x.n.k,.i .i64 x.n.m,.f x.n.t,.sl 1 (bS x.n.d)]:=by
 simp only[jD,ed,dv,h];rfl
theorem zLb(t:Bh):(∀x∈jD t,x.length=10)=True:=fr λx a=>by
 simp only[jD,cg] at a;obtain⟨y,_,rfl⟩:=a;rfl
theorem zGx(t:Bh)(p:Ba)(k k1 m1 k2 m2:Int)(t1 t2:Nat)(d1 d2:Ba):jD t++[[.s p,.i .i64 k,.i .i64 k1,.i .i64 m1,.f t1,.sl 1 (bS d1),.i .i64 k2,.i .i64 m2,.f t2,.sl 1 (bS d2)]]=jD (t++[⟨p,k,⟨k1,m1,t1,d1⟩,⟨k2,m2,t2,d2⟩⟩]):=by simp[jD,Ch.cs]
theorem zRr(x:Ch):Ch.mk x.p x.k x.o x.n=x:=rfl
attribute [go_sem] zLa zB3 zK9 zGy zGw zLb zGx zRr
def chF(a b:Bl)(p:Ba):Bh :=
 if xI (aN a p).isSome (aN b p).isSome ((aN a p).getD nd0) ((aN b p).getD nd0) != 0 then [⟨p,xI (aN a p).isSome (aN b p).isSome ((aN a p).getD nd0) ((aN b p).getD nd0),(aN a p).getD nd0,(aN b p).getD nd0⟩] else []
def zAk(a b:Bl):List Ba->Bh
 | []=>[]
 | p::r=>chF a b p++zAk a b r
end
end Go.Dm
end
end
section
namespace Go.Dm
open Go
section
variable {P:Program}{w:World}{n:String}{d:DataW Unit}{l:List (String × DataW Unit)}{g t e k:Nat}
theorem vV: ∀{l:List (String × DataW Unit)} {ps:List MemPlace},DataW.LaidVars P w l ps->(n,d)∈l ->
  ∃g t cs a p,P.globalNamed n=some g/\(P.globals[g]?).map (·.type)=some t/\w.var? P n=some cs/\DataW.trod (λ_=>()) P w 0 (λ_=>true) false a t cs.toList=some (d,p)
 | [],_,_,h=>by cases h
 | (m,e)::r,ps,h,b=>by
  obtain⟨g,t,cs,a,p,q,c,f,i,j,o,_⟩:=h;rcases bx.1 b with b|b
  .cases b;exact⟨g,t,cs,a,p,c,f,i,j⟩
  .exact vV o b
theorem zHV{vs:List Int}(C:laidMet P l w)(D:(n,d)∈l)(E:d=.agg (vs.map λv=>.lit (.int .i64 v)))
 (z:P.globalNamed n=some g)(F:(P.globals[g]?).map (·.type)=some t)(G:P.underlying t=some (.array k e))(H:P.underlying e=some (.int .i64))(I:P.cellsOf e=1)(j:Nat)(v:Int)(J:vs[j]?=some v):
  w.cell? ⟨g,j,none⟩=some (.int .i64 v):=by
 obtain⟨U,K,_⟩:=C;obtain⟨L,M,cs,b,p,N,O,Q,f⟩:=vV K D;obtain rfl:L=g:=fx (N.symm.trans z);obtain rfl:M=t:=fx (O.symm.trans F);rw[var?_cell z Q];cases b with
 | zero=>simp[DataW.trod] at f
 | succ b =>
  simp only[DataW.trod,G] at f;split at f
  .simp only[du] at f;obtain⟨A,R,h⟩:=f;simp only[Prod.mk.injEq] at h;obtain⟨h,_⟩:=h;subst E;simp only[DataW.agg.injEq] at h;obtain⟨S,T⟩:=mapM_at R;have B:(A.map (·.1))[j]?=some (.lit (.int .i64 v)):=by rw[h,dv,J];rfl
   rw[dv,du] at B;obtain⟨x,i,m⟩:=B;have o:j<A.length:=(bz.1 i).1;obtain⟨y,s,a⟩:=T j j (by rw[List.getElem?_range (by rw[S,o8] at o;exact o)]);obtain rfl:y=x:=fx (s.symm.trans i);rw[I,kh] at a;cases b with
   | zero=>simp[DataW.trod] at a
   | succ b =>
    simp only[DataW.trod,H] at a;rw[<- jl];rcases q:(cs.toList.drop j).take 1 with _|⟨c,_|⟨V,r⟩⟩
    .rw[q] at a;simp at a
    .rw [q] at a;have u:cs.toList[j]?=some c:=by
      have:=congrArg (·[0]?) q
      simpa[gq,gu] using this
     rw[u];cases c<;>simp at a;obtain⟨⟨rfl,_⟩,rfl⟩:=a;simp at m;rw[m]
    .rw[q] at a;simp at a
  .cases f
theorem zHW{vs:List Ba}(C:laidMet P l w)(D:(n,d)∈l)(E:d=.agg (vs.map λv=>.lit (.string v)))
 (z:P.globalNamed n=some g)(F:(P.globals[g]?).map (·.type)=some t)(G:P.underlying t=some (.array k e))(H:P.underlying e=some .string)(I:P.cellsOf e=1)(j:Nat)(v:Ba)(J:vs[j]?=some v):
  w.cell? ⟨g,j,none⟩=some (.string ⟨v.toArray⟩):=by
 obtain⟨U,K,_⟩:=C;obtain⟨L,M,cs,b,p,N,O,Q,f⟩:=vV K D;obtain rfl:L=g:=fx (N.symm.trans z);obtain rfl:M=t:=fx (O.symm.trans F);rw[var?_cell z Q];cases b with
 | zero=>simp[DataW.trod] at f
 | succ b =>
  simp only[DataW.trod,G] at f;split at f
  .simp only[du] at f;obtain⟨A,R,h⟩:=f;simp only[Prod.mk.injEq] at h;obtain⟨h,_⟩:=h;subst E;simp only[DataW.agg.injEq] at h;obtain⟨S,T⟩:=mapM_at R;have B:(A.map (·.1))[j]?=some (.lit (.string v)):=by rw[h,dv,J];rfl
   rw[dv,du] at B;obtain⟨x,i,m⟩:=B;have o:j<A.length:=(bz.1 i).1;obtain⟨y,s,a⟩:=T j j (by rw[List.getElem?_range (by rw[S,o8] at o;exact o)]);obtain rfl:y=x:=fx (s.symm.trans i);rw[I,kh] at a;cases b with
   | zero=>simp[DataW.trod] at a
   | succ b =>
    simp only[DataW.trod,H] at a;rw[<- jl];rcases q:(cs.toList.drop j).take 1 with _|⟨c,_|⟨V,r⟩⟩
    .rw[q] at a;simp at a
    .rw [q] at a;have u:cs.toList[j]?=some c:=by
      have:=congrArg (·[0]?) q
      simpa[gq,gu] using this
     rw[u];cases c<;>simp at a;obtain⟨_,rfl⟩:=a;simp at m;subst m;simp
    .rw[q] at a;simp at a
  .cases f
end
end Go.Dm
end
