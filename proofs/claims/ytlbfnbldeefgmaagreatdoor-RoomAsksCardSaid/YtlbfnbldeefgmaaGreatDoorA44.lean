/- Part 45 of the proof of roomAsks_card, set without needless blanks. No condition. -/
import Derived.Test.YtlbfnbldeefgmaaGreatDoorA43
set_option linter.all false
section
namespace Go.Dm
open Go
theorem SimW.okR {r:Rm} {d:Dr} (h:SimW r d) (hl:d.L.length≤900):OkR r where
 srt:=by rw [h.N];exact h.srt
 nl:=by rw [h.N];have:=h.ln;omega
 ll:=by rw [h.L];simpa [Dr.G] using hl
 ent:=fun x hx=>by
  rw [h.L] at hx;obtain ⟨y,hy,rfl⟩:=RQ.1 hx;rw [h.e y hy];exact RO (h.toOkW.tree _) (h.t y hy)
 x:=by rw [h.x];have:=h.nx.2;omega
theorem Sim.okR {r:Rm} {d:Dr} (h:Sim r d):OkR r:=h.toSimW.okR (by have:=h.len;omega)
theorem Sim.okT {r:Rm} {d:Dr} (h:Sim r d) (id:Int):OkT (treeR r id):=by rw [h.toSimW.treeR];exact h.toOkW.tree id
theorem zG1 {r:Rm} {d:Dr} (h:SimW r d) (hl:d.L.length≤800) {s:List UInt8} {p q:Int} {t:List It} (hs:aW s=true) (hp:EB d p) (hq:q=0∨(p≠q∧EB d q)) (hc:(bQ d.G p).length≤11) (ht:OkT t)
  (hx:d.x<2147483647) (hn:(cE d.N s d.x).length≤20):OkR ⟨cE r.N s r.x,r.L++[⟨r.x,p,q,false⟩],pZ r.E r.x (fX (treeR r p) t),r.x+1⟩∧OkG (r.L++[⟨r.x,p,q,false⟩]):=by
 have hw:=NK h hs hp hq hc ht hx hn;rw [h.treeR];refine ⟨hw.okR ?_,?_⟩
 ·show (d.L++[_]).length≤900;rw [List.length_append];simp only [List.length_cons,List.length_nil];omega
 ·have h1:=hw.g;rw [← hw.L] at h1;exact h1
theorem zNB {r:Rm} {d:Dr} (h:Sim r d) {s:List UInt8} (h1:((wsP r s).2 == 0)=true):∃ n y,GD d.N s=some n∧y∈d.L∧wsP r s=(y.1,0)∧tO d y.1.i=some y∧y.1.f=false∧y.1.i=n.l:=by
 unfold wsP at h1 ⊢;cases hn:GD d.N s with
 | none =>
  obtain ⟨k1,_⟩:=oR h.toSimW hn;rw [k1] at h1;cases h1
 | some n =>
  obtain ⟨y,hy,g1,g2,g3,g4,g5⟩:=iN h.toSimW hn;rw [g1] at h1 ⊢;cases hf:y.1.f
  ·exact ⟨n,y,rfl,hy,by rw [show ((0:Int) == 0 && false)=false from rfl];rfl,g3,hf,g4⟩
  ·rw [hf] at h1;cases h1
theorem zIZ {r:Rm} {d:Dr} (h:SimW r d) {on:Int} (h3:(sZ r on == 0)=true):(bQ d.G on).length≤11:=by
 rw [QI h] at h3;exact WM (by simpa using h3)
theorem YZ {r:Rm} {d:Dr} (h:Sim r d) {s sn:List UInt8} (h1:((wsP r s).2 == 0)=true) (h2:(rD r sn == 0)=true) (h3:(sZ r (wsP r s).1.i == 0)=true):
  OkR ⟨cE r.N sn (wsP r s).1.i,mQ r.L (wsP r s).1.i,r.E,r.x⟩ ∧
   OkR ⟨cE (cE r.N sn (wsP r s).1.i) s r.x,mQ r.L (wsP r s).1.i++[⟨r.x,(wsP r s).1.i,0,false⟩],pZ r.E r.x [],r.x+1⟩∧OkG (mQ r.L (wsP r s).1.i++[⟨r.x,(wsP r s).1.i,0,false⟩]):=by
 obtain ⟨n,y,hn,hy,e,g3,hf,g4⟩:=zNB h h1;rw [e] at h3 ⊢;rw [VS h.toSimW] at h2;obtain ⟨f1,f2,f3,f4,f5⟩:=VT h2;have hwf:=zV h.toSimW y.1.i;have hmem:∀ n,n∈cE d.N sn y.1.i↔n=⟨sn,y.1.i⟩∨(n∈d.N∧n.n≠sn):=fun n=>wV h.srt;have hwn:=DI hwf (N:=cE d.N sn y.1.i) (mT h.srt sn y.1.i) (fun m hm=>by
   rcases (hmem m).1 hm with rfl|⟨g1,_⟩
   ·exact ⟨f1,_,gB h.g.inc (id:=y.1.i) hy,rfl⟩
   ·exact hwf.nm m g1) (fun a ha b hb e hfz=>by
   have hfz2:∀ z∈d.L,z.1.i=a.l→z.1.i≠y.1.i∧z.1.f=false:=fun z hz hza=>by
    have:=hfz _ (gB h.g.inc (id:=y.1.i) hz) hza;simp only [AN,Bool.or_eq_false_iff] at this;exact ⟨by simpa using this.2,this.1⟩
   rcases (hmem a).1 ha with rfl|⟨g1,_⟩ <;> rcases (hmem b).1 hb with rfl|⟨g2,_⟩
   ·rfl
   ·exact absurd rfl (hfz2 y hy rfl).1
   ·exact absurd rfl (hfz2 y hy e.symm).1
   ·exact h.one a g1 b g2 e fun z hz hza=>(hfz2 z hz hza).2) (by have:=qS d.N sn y.1.i;omega)
 have hwn:SimW ⟨cE d.N sn y.1.i,mQ r.L y.1.i,r.E,r.x⟩ ⟨xX y.1.i d.L,cE d.N sn y.1.i,d.x⟩:=hwn;have hlen:(xX y.1.i d.L).length=d.L.length:=by rw [oP h.g.inc,List.length_map]
 have hsn:aW s=true:=by
  obtain ⟨g1,g2⟩:=iH hn;rw [← g2];exact (h.nm n g1).1
 have hfa:EB ⟨xX y.1.i d.L,cE d.N sn y.1.i,d.x⟩ y.1.i:=⟨_,gB h.g.inc (id:=y.1.i) hy,rfl,by show (y.1.f || y.1.i == y.1.i)=true;simp⟩
 have hGeq:(⟨xX y.1.i d.L,cE d.N sn y.1.i,d.x⟩:Dr).G=mQ d.G y.1.i:=zCU h.g.inc y.1.i;have hne:sn≠s:=fun e=>by
  subst e;have:=h.toOkW.name0 sn;rw [f2,hn] at this;cases this
 have hin:(⟨n.n,n.l⟩:Nm)∈cE d.N sn y.1.i:=by
  obtain ⟨g1,g2⟩:=iH hn;exact (hmem _).2 (.inr ⟨g1,by rw [g2];exact fun e=>hne e.symm⟩)
 have hlen2:(cE (cE d.N sn y.1.i) s d.x).length≤20:=by
  obtain ⟨g1,g2⟩:=iH hn;rw [← g2,wW (mT h.srt sn y.1.i) hin];have:=qS d.N sn y.1.i;rw [List.length_set];omega
 have e0:dE ⟨xX y.1.i d.L,cE d.N sn y.1.i,d.x⟩ y.1.i=y.2:=(FD h.toOkW y.1.i y.1.i).trans (oA g3);have hl:=h.len;have:=zG1 (s:=s) (p:=y.1.i) (q:=0) (t:=y.2) hwn (by show (xX y.1.i d.L).length≤800;omega) hsn hfa (.inl rfl) (by rw [hGeq,xY];exact zIZ h.toSimW h3) (h.t y hy) f5 hlen2;rw [hwn.treeR,e0,LN (h.t y hy)] at this;rw [h.N];exact ⟨hwn.okR (by show (xX y.1.i d.L).length≤900;omega),this⟩
theorem zA2 {r:Rm} {d:Dr} (h:Sim r d) (s:List UInt8) {l:List Ch} (hl:∀ x∈l,x.n.t<18446744073709551616):OkT (treeR r (wsP r s).1.i)∧OkT (treeR r (wsP r s).1.p)∧(((eG (treeR r (wsP r s).1.i) l).2 == 0)=true→OkT (eG (treeR r (wsP r s).1.i) l).1) :=
 ⟨h.okT _,h.okT _,fun he=>HS (h.okT _) hl (by simpa using he)⟩
theorem zLi {r:Rm} {d:Dr} (h:Sim r d) (s:List UInt8) {c:Cl} (hc:c.t<18446744073709551616):OkT (treeR r (dJ r s).1.i)∧OkT (treeR r (dJ r s).1.p)∧OkT (doP (treeR r (dJ r s).1.i) c).1 :=
 ⟨h.okT _,h.okT _,zLh (h.okT _) hc⟩
end Go.Dm
end
section
namespace Go.Proofs.YtlbfnbldeefgmaaGreatDoor
open Go Go.Dm Go.Proofs
set_option maxRecDepth 100000
set_option maxHeartbeats 8000000
section
variable {r r':Rm} {d:Dr} {e:Int}
theorem VQ {s sn:List UInt8} (h:Sim r d) (hs:sn.length≤1000000000) (he:kH r s sn=(r',e)):aA Tryz.prog 14 [.c (.ptr 0 0),.c (.p (.s s)),.c (.p (.s sn))] (cB r) fun d h=>d=.c (.p (.i .i64 e))∧h=BB r':=by
 have:=MW (s:=s) h.okR hs fun a b c=>YZ h a b c;rw [he] at this;exact this
theorem zIO {s:List UInt8} {l:List Ch} (h:Sim r d) (hl:l.length≤100000) (hp:∀ x∈l,x.p.length≤1000000000∧x.o.t<18446744073709551616∧x.n.t<18446744073709551616) (hd:∀ x∈l,x.n.d.length≤140737488355328) (he:kC r s l=(r',e)):
  aA Tryz.prog 30 [.c (.ptr 0 0),.c (.p (.s s)),.c (.p (.sl 10 (pD l)))] (cB r) fun d h=>d=.c (.p (.i .i64 e))∧h=cB r':=by
 have:=SG (s:=s) h.okR hl hp hd fun _=>zA2 h s fun x hx=>(hp x hx).2.2;rw [he] at this;exact this
theorem zNE {s:List UInt8} {ck:Int} {cp cq:List UInt8} {cm:Int} {ct:Nat} {ca cn:Int} {cd:List UInt8} {a:An} (h:Sim r d) (hct:ct<18446744073709551616) (hcp:cp.length≤9223372036854775807)
  (hcd:cd.length≤140737488355328) (hcq:cq.length≤9223372036854775807) (hca:-9223372036854775808≤ca∧ca≤9223372036854775807) (he:ER r s ⟨ck,cp,cq,cm,ct,ca,cn,cd⟩=(r',a)):
  aA Tryz.prog 10 [.c (.ptr 0 0),.c (.p (.s s)),.agg (clc ck cp cq cm ct ca cn cd)] (cB r) fun d h=>d=.agg (anv a)∧h=cB r':=by
 have:=zHo (s:=s) (ck:=ck) (cm:=cm) (cn:=cn) h.okR hct hcp hcd hcq hca fun _=>zLi h s (c:=⟨ck,cp,cq,cm,ct,ca,cn,cd⟩) hct;rw [he] at this;exact this
end
end Go.Proofs.YtlbfnbldeefgmaaGreatDoor
end
section
namespace Go.Dm
open Go
section steps
variable {r:Rm} {d d':Dr}
theorem XP {s:List UInt8} {l:List Ch} {e:Int} (h:Sim r d) (hl:∀ x∈l,x.n.t<18446744073709551616) (he:BH d s l=(d',e)):∃ r',kC r s l=(r',e)∧Sim r' d':=by
 obtain ⟨h1,h2⟩:=zA3 h s hl;rw [he] at h1 h2;exact ⟨_,Prod.ext rfl h1,h2⟩
theorem xU {s sn:List UInt8} {e:Int} (h:Sim r d) (he:kG d s sn=(d',e)):∃ r',kH r s sn=(r',e)∧Sim r' d':=by
 obtain ⟨h1,h2⟩:=ZA h s sn;rw [he] at h1 h2;exact ⟨_,Prod.ext rfl h1,h2⟩
theorem zBW {s:List UInt8} {c:Cl} {a:An} (h:Sim r d) (hc:c.t<18446744073709551616) (he:doD d s c=(d',a)):∃ r',ER r s c=(r',a)∧Sim r' d':=by
 obtain ⟨h1,h2⟩:=zLj h s hc;rw [he] at h1 h2;exact ⟨_,Prod.ext rfl h1,h2⟩
theorem PQ {s:List UInt8} {id:Int} {a b:List It} (hn:gH d.N s=id) (h0:(id == 0)=false) (hf:pM d id=false) (ht:dE d id=a) (ha:OkT a) (hb:OkT b):BH d s (gG a b)=(mC d id b,0):=by
 unfold BH;rw [hn,h0,hf,ht,XO ha hb];rfl
end steps
theorem zBE {a b:List It} (ha:OkT a) (hb:OkT b):∀ x∈gG a b,x.n.t<18446744073709551616:=fun x hx=>(VC ha hb hx).2
def v1S:List UInt8:=[118,49]
def mkS (p:List UInt8):Cl:=⟨1,p,[],493,0,0,0,[]⟩
theorem RF:∃ (r1 r2 r3:Rm) (d1 d2 d3:Dr) (a b:An),kH zKR fM v1S=(r1,0)∧Sim r1 d1∧ER r1 v1S (mkS [97])=(r2,a)∧a.e=14∧Sim r2 d2∧ER r2 fM (mkS [97])=(r3,b)∧b.e=0∧Sim r3 d3∧r3.N.length=2∧r3.x=4:=by
 obtain ⟨r1,e1,s1⟩:=xU (d':=(kG PI fM v1S).1) (e:=0) (s:=fM) (sn:=v1S) GA (Prod.ext rfl (by decide +kernel));obtain ⟨r2,e2,s2⟩:=zBW (s:=v1S) (c:=mkS [97]) s1 (by decide) (Prod.ext rfl rfl:_=((doD (kG PI fM v1S).1 v1S (mkS [97])).1,(doD (kG PI fM v1S).1 v1S (mkS [97])).2));obtain ⟨r3,e3,s3⟩:=zBW (s:=fM) (c:=mkS [97]) s2 (by decide) (Prod.ext rfl rfl:_=((doD (doD (kG PI fM v1S).1 v1S (mkS [97])).1 fM (mkS [97])).1,(doD (doD (kG PI fM v1S).1 v1S (mkS [97])).1 fM (mkS [97])).2));exact ⟨r1,r2,r3,_,_,_,_,_,e1,s1,e2,by decide +kernel,s2,e3,by decide +kernel,s3,by rw [s3.N];decide +kernel,by rw [s3.x];decide +kernel⟩
def fkD (b:List It):Dr:=⟨[(⟨1,0,0,true⟩,[]),(⟨2,1,0,true⟩,b),(⟨3,2,0,false⟩,b)],[⟨fM,3⟩,⟨v1S,2⟩],4⟩
theorem zCN (b:List It):kG (mC PI 2 b) fM v1S=(fkD b,0):=by kernel_rfl
end Go.Dm
end
section
namespace Go.Proofs.YtlbfnbldeefgmaaGreatDoor
open Go Go.Dm Go.Proofs
set_option maxRecDepth 100000
set_option maxHeartbeats 8000000
theorem MX:aA Tryz.prog 8 [] [] fun d h=>d=.c (.ptr 0 0)∧h=cB zKR:=by
 refine aA.perm [3,0,1,2] (d1:=.c (.ptr 3 0)) (h1:=[.arr 2 (bM zKR.N) false,.arr 4 (cZ zKR.L) false,.mp [],.box [.own 0 0 1,.own 1 0 2,.mp 2,.p (.i .i64 3)]]) ?_ rfl rfl (by unfold cB;exact (by simp only [iD,kW,iC,rH];(repeat' (first|exact rfl|exact True.intro|refine And.intro ?_ ?_))));refine zFe aB aK Tryz.func8 rfl rfl fun X0 hX=>?_;simp only [Tryz.f8,go_sem]
 repeat' (first|simp only [*,go_sem,Nat.reduceLT,Nat.reduceLeDiff,Nat.reduceEqDiff,↓reduceIte,Nat.reduceAdd,Nat.reduceMul,]|((with_reducible refine And.intro ?_ ?_);decide))
 all_goals rfl
theorem zJQ {p:List UInt8}:aA Tryz.prog 41 [.c (.p (.s p))] [] fun r h=>r=.agg (clc 1 p [] 493 0 0 0 [])∧h=[]:=by
 refine bK ?_;refine ent aB aK Tryz.func41 rfl rfl fun X0 hX=>?_;simp only [Tryz.f41,go_sem]
 repeat' (simp only [*,go_sem,Nat.reduceLT,Nat.reduceLeDiff,Nat.reduceEqDiff,↓reduceIte,Nat.reduceAdd,])
 all_goals (repeat' (exact .inr ⟨_,rfl⟩))
theorem zNH {r r':Rm} {d:Dr} {s p:List UInt8} {a:An} (h:Sim r d) (hp:p.length≤1000) (he:ER r s (mkS p)=(r',a)):
  aA Tryz.prog 10 [.c (.ptr 0 0),.c (.p (.s s)),.agg (clc 1 p [] 493 0 0 0 [])] (cB r) fun d h=>d=.agg (anv a)∧h=cB r' :=
 zNE h (by decide) (by omega) (by decide) (by decide) (by decide) he
theorem zDg:aA Tryz.prog 9 [] [] fun r h=>r=.c (.p (.b true))∧h=[]:=by
 obtain ⟨r1,r2,r3,d1,d2,d3,a,b,e1,s1,e2,a2,s2,e3,b3,s3,n3,x3⟩:=RF;have c1:=VQ (s:=fM) (sn:=v1S) GA (by decide) e1;have m:=zJQ (p:=[97]);have c2:=zNH (s:=v1S) s1 (by decide) e2;have c3:=zNH (s:=fM) s2 (by decide) e3;have c4:=SR s3.okR;have c5:=zAy (r:=r3);obtain ⟨ae,⟨ak,am,at_,ad⟩,ab,al⟩:=a;obtain ⟨be,⟨bk,bm,bt,bd⟩,bb,bl⟩:=b;simp only at a2 b3;subst a2 b3;rw [x3] at c5;have hn:((r3.N.length:Int) == 2)=true:=by rw [n3];rfl
 clear n3 x3;clear e1 s1 e2 s2 e3 s3;refine ent aB aK Tryz.func9 rfl rfl fun X0 hX=>?_;simp only [Tryz.f9,go_sem]
 repeat' (first|simp only [*,go_sem,Nat.reduceLT,Nat.reduceEqDiff,↓reduceIte,Nat.reduceAdd,Nat.reduceSub,beq_self_eq_true,bne_self_eq_false]|((with_reducible refine bW [] (MX) ?_ ?_ ?_ ?_);exact rfl;exact rfl;(focus ((simp only [go_sem];done))))|((with_reducible refine bW [0,1,2,3] (c1) ?_ ?_ ?_ ?_);exact rfl;exact rfl;(focus ((simp only [go_sem];done))))|((with_reducible refine kM (m) ?_ ?_ ?_);exact rfl;exact fun _=>rfl)|((with_reducible refine bW [0,4,5,6] (c2) ?_ ?_ ?_ ?_);exact rfl;exact rfl;(focus ((simp only [go_sem];done))))|((with_reducible refine bW [0,4,5,6] (c3) ?_ ?_ ?_ ?_);exact rfl;exact rfl;(focus ((simp only [go_sem];done))))|((with_reducible refine bW [0,4,5,6] (c4) ?_ ?_ ?_ ?_);exact rfl;exact rfl;(focus ((simp only [go_sem];done))))|((with_reducible refine bW [0,4,5,6] (c5) ?_ ?_ ?_ ?_);exact rfl;exact rfl;(focus ((simp only [go_sem];done)))))
end Go.Proofs.YtlbfnbldeefgmaaGreatDoor
end
section
namespace Go.Dm
open Go
def NG (x y:En):Bool:=x.p == y.p && (x.k == y.k && (x.o == y.o && mI x.n y.n))
def lB:List En→List En→Bool
 | [],[]=>true
 | x::a,y::b=>NG x y && lB a b
 | _,_=>false
theorem SU {a b:List En} {k:Nat} {x y:En} (ha:a[k]? = some x) (hb:b[k]? = some y):lB (a.drop k) (b.drop k)=(NG x y && lB (a.drop (k+1)) (b.drop (k+1))):=by
 obtain ⟨h1,rfl⟩:=List.getElem?_eq_some_iff.1 ha;obtain ⟨h2,rfl⟩:=List.getElem?_eq_some_iff.1 hb;rw [List.drop_eq_getElem_cons h1,List.drop_eq_getElem_cons h2,lB]
theorem DA:∀ {a b:List En},a.length≠b.length→lB a b=false
 | [],[],h=>absurd rfl h
 | [],_::_,_=>rfl
 | _::_,[],_=>rfl
 | x::a,y::b,h=>by
  rw [lB,DA (a:=a) (b:=b) fun e=>h (by simp [e]),Bool.and_false]
theorem zP:∀ {a:List En},(∀ x∈a,x.n.wf)→lB a a=true
 | [],_=>rfl
 | x::a,h=>by
  rw [lB,zP fun y hy=>h y (List.mem_cons_of_mem _ hy),NG,pS (h x List.mem_cons_self)];simp
end Go.Dm
end
section
namespace Go.Proofs.YtlbfnbldeefgmaaGreatDoor
open Go Go.Dm Go.Proofs
set_option maxRecDepth 100000
set_option maxHeartbeats 8000000
theorem zHr {p q:List UInt8} {k k' nk nk' nm nm':Int} {o o':Bool} {t t':Nat} {d d':List UInt8}:
  aA Tryz.prog 120 [.agg [.p (.s p),.p (.i .i64 k),.p (.b o),.p (.i .i64 nk),.p (.i .i64 nm),.p (.f t),.p (.sl 1 (bO d))],.agg [.p (.s q),.p (.i .i64 k'),.p (.b o'),.p (.i .i64 nk'),.p (.i .i64 nm'),.p (.f t'),.p (.sl 1 (bO d'))]] []
   fun r h=>r=.c (.p (.b (NG ⟨p,k,o,⟨nk,nm,t,d⟩⟩ ⟨q,k',o',⟨nk',nm',t',d'⟩⟩)))∧h=[]:=by
 refine ent aB aK Tryz.func120 rfl rfl fun X0 hX=>?_;simp only [Tryz.f120,go_sem]
 repeat' (first|simp only [*,go_sem,Nat.reduceLT,Nat.reduceLeDiff,Nat.reduceEqDiff,↓reduceIte,Nat.reduceAdd,]|((with_reducible refine dM (rO) ?_ ?_ ?_);exact rfl;exact rfl)|with_reducible refine bF (fun _=>?_) (fun _=>?_))
 all_goals ((simp_all [NG];done))
theorem zMR {a b:List En} (ha:a.length≤1000000) (hb:b.length≤1000000):
  aA Tryz.prog 119 [.c (.p (.sl 7 (fJ a))),.c (.p (.sl 7 (fJ b))),.c (.clo 120 [])] [] fun r h=>r=.c (.p (.b (lB a b)))∧h=[]:=by
 by_cases hl:b.length=a.length
 ·have q1:((a.length:Int) != a.length)=false:=by simp
  refine ent aB aK Tryz.func119 rfl rfl fun X0 hX=>?_;simp only [Tryz.f119,go_sem]
  repeat' (simp only [*,go_sem,Nat.reduceLT,Nat.reduceEqDiff,↓reduceIte,Nat.reduceAdd,bne_self_eq_false])
  refine aY aB aK (α:=Nat) (fun k=>⟨32,[(1,.c (.p (.sl 7 (fJ b)))),(2,.c (.clo 120 [])),(15,.c (.p (.sl 7 (fJ a)))),(16,.c (.p (.i .i64 a.length))),(17,.c (.p (.i .i64 k)))],[]⟩)
   (fun k=>k≤a.length∧lB (a.drop k) (b.drop k)=lB a b) (fun k=>a.length-k) 0 ⟨Nat.zero_le _,rfl⟩ (.inl (aI (by rw [hX];rfl) rfl rfl (by simp [aH,aL,aD,aJ,aF,]))) ?_
  rintro k ⟨hk,hs⟩;by_cases hlt:k<a.length
  ·have hx:a[k]? = some a[k]:=List.getElem?_eq_getElem hlt;have hy:b[k]? = some (b[k]'(by omega)):=List.getElem?_eq_getElem (by omega);have hg:=pJ hx;have hg2:=pJ hy;have h1:decide ((k:Int)<(a.length:Int))=true:=decide_eq_true (by omega);have hd:=SU hx hy;generalize a[k]=x at hx hg hd;generalize (b[k]'(by omega))=y at hy hg2 hd;have w1:IntKind.i64.wrap ((k:Int)+1)=k+1:=wrap_i64 (by omega) (by omega);rw [hd] at hs;clear hd
   repeat' (first|simp only [*,go_sem,Nat.reduceLT,Nat.reduceLeDiff,Nat.reduceEqDiff,↓reduceIte,Nat.reduceAdd,]|((with_reducible refine dM (zHr) ?_ ?_ ?_);exact rfl;exact rfl)|with_reducible refine aO (fun _=>?_) (fun _=>?_)|((with_reducible refine And.intro ?_ ?_);omega))
   ·rename_i hb;rw [Bool.not_eq_true'] at hb;rw [hb,Bool.false_and] at hs;rw [← hs]
   ·rename_i hb;rw [Bool.not_eq_false'] at hb;rw [hb,Bool.true_and] at hs;exact fD (k+1) ⟨by omega,hs⟩ (by omega) (aI rfl rfl rfl (by simp [aH,aL,aD,aJ,aF,]))
  ·have h1:decide ((k:Int)<(a.length:Int))=false:=decide_eq_false (by omega);rw [List.drop_of_length_le (by omega),List.drop_of_length_le (by omega)] at hs;have hs2:lB a b=true:=hs.symm;clear hs
   repeat' (simp only [*,go_sem,Nat.reduceLT,Nat.reduceEqDiff,↓reduceIte,])
 ·have q1:((a.length:Int) != b.length)=true:=by simpa [bne] using fun h=>hl (by omega)
  rw [DA fun h=>hl h.symm];refine ent aB aK Tryz.func119 rfl rfl fun X0 hX=>?_;simp only [Tryz.f119,go_sem]
  repeat' (simp only [*,go_sem,Nat.reduceLT,Nat.reduceEqDiff,↓reduceIte,Nat.reduceAdd,])
theorem RJ {a b:List En} (ha:a.length≤1000000) (hb:b.length≤1000000):aA Tryz.prog 62 [.c (.p (.sl 7 (fJ a))),.c (.p (.sl 7 (fJ b)))] [] fun r h=>r=.c (.p (.b (lB a b)))∧h=[]:=by
 refine ent aB aK Tryz.func62 rfl rfl fun X0 hX=>?_;simp only [Tryz.f62,go_sem]
 repeat' (first|simp only [*,go_sem,Nat.reduceLT,Nat.reduceEqDiff,↓reduceIte,]|((with_reducible refine dM (zMR ha hb) ?_ ?_ ?_);exact rfl;exact rfl))
end Go.Proofs.YtlbfnbldeefgmaaGreatDoor
end
