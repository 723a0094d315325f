/- Part 46 of the proof of roomDrops_card, set without needless blanks. No condition. -/
import Derived.Test.YtlbfnbldeefgmaaGreatDoorS44
set_option linter.all false
set_option maxRecDepth 100000
set_option maxHeartbeats 16000000
section
namespace Go.Proofs.YtlbfnbldeefgmaaGreatDoor
open Go Go.Dm Go.Shelf Go.Proofs.Tryz
def SA:Go.Shelf.Ren:=⟨λ| 45=>94|n=>n,λ| 22=>49 | 23=>73 | 3=>3 | 4=>4 | 0=>0|n=>n,fun|n=>n⟩
theorem zKi:DelL prog SA:={
 mixed:=by kernel_rfl
 f45:=⟨Tryz.f94.name,by decide,Tryz.func94.trans (congrArg some (by kernel_rfl))⟩
 t0:=Tryz.underlying0
 a0:=Tryz.isAgg0
 z0:=Tryz.sizeOf0
 v0:=Tryz.zeroValue0
 t3:=Tryz.underlying3
 a3:=Tryz.isAgg3
 z3:=Tryz.sizeOf3
 v3:=Tryz.zeroValue3
 t4:=Tryz.underlying4
 a4:=Tryz.isAgg4
 z4:=Tryz.sizeOf4
 v4:=Tryz.zeroValue4
 t22:=Tryz.underlying49
 a22:=Tryz.isAgg49
 z22:=Tryz.sizeOf49
 v22:=Tryz.zeroValue49 }
theorem zKj{h:aC}{id n i:Nat}{es:List (List PV)}(hid:h[id]?=some (.arr 2 es false))(hn:es.length=n)(hin:i<n):
  aA prog 94 [.c (.own id 0 n),.c (.p (.i .i64 i)),.c (.p (.i .i64 (i+1)))] h λd h'=>d=.c (.own h.length 0 (n-1))/\h'=h.set id .dead++[.arr 2 (es.take i++es.drop (i+1)) false] :=
 GM (k:=2) aF zKi (enters func94 rfl rfl) (by show (tab 73).size=2;rw[tab73]) (by decide) hid hn hin
end Go.Proofs.YtlbfnbldeefgmaaGreatDoor
end
section
namespace Go.Proofs.YtlbfnbldeefgmaaGreatDoor
open Go Go.Dm Go.Proofs Go.Proofs.Tryz
theorem zA4{r:Rm}{s:List UInt8}(hr:OkR r)(hgr:OkG r.L)(h3:OkR ⟨iA r.N s,r.L,r.E,r.x⟩):
  aA prog 37 [.c (.ptr 0 0),.c (.p (.s s))] (aT r) λd h=>d=.c (.p (.i .i64 (qW r s).2))/\h=dD (qW r s).1:=by
 have hf:=qA (r:=r) (s:=s) (by have:=hr.nl;omega) hr.srt;have hnl:=hr.nl;unfold qW;rcases TV hr.srt (s:=s) with⟨h1,h2⟩|⟨x,h1,h2,hx,h4⟩
 .rw[h1] at hf ⊢;simp only[Bool.not_false,if_true];refine aA.perm [0,4,5,6,1,2,3] (d1:=.c (.p (.i .i64 6))) (h1:=aT r) ?_ rfl rfl (by unfold dD aT;exact hpK);clear h1 h2 h3;refine nA aF aL func37 rfl rfl λX0 hX=>?_;simp only[f37,go_sem]
  repeat' (first|exact⟨⟩|refine sq ?_|refine uS [0,1,2,3] (hf) ?_)
 .rw[h1] at hf ⊢;simp only[Bool.not_true,Bool.false_eq_true,if_false];have hcl:=zBS h3 hgr;have hlt:=(List.getElem?_eq_some_iff.1 hx).1;have w1:IntKind.i64.wrap ((kY r.N s:Int)+1)=(kY r.N s:Int)+1:=wrap_i64 (by omega) (by omega);have hdr:=qV hr.srt (List.mem_of_getElem? hx);rw[h4] at hdr;have hen:(bH r.N).take (kY r.N s)++(bH r.N).drop (kY r.N s+1)=bH (iA r.N s):=by rw[hdr];simp[bH,List.map_take,List.map_drop]
  have hlen:r.N.length-1=(iA r.N s).length:=by rw[hdr,List.length_append,List.length_take,List.length_drop];omega
  have hck:∀{h:aC} {K:DV->aC->Prop},h[1]?=some (.arr 2 (bH r.N) false)->K (.c (.own h.length 0 r.N.length)) (h++[.arr 2 (bH r.N) false])->aA prog 51 [.c (.own 1 0 r.N.length)] h K:=λh0 hk=>KJ (by omega) rfl h0 hk;have hdk:∀{h:aC} {K:DV->aC->Prop},h[4]?=some (.arr 2 (bH r.N) false)->K (.c (.own h.length 0 (iA r.N s).length)) (h.set 4 .dead++[.arr 2 (bH (iA r.N s)) false])->aA prog 94 [.c (.own 4 0 r.N.length),.c (.p (.i .i64 (kY r.N s))),.c (.p (.i .i64 ((kY r.N s:Int)+1)))] h K:=λh0 hk=>aA.mono (zKj h0 (gM _) hlt) (by rintro _ _ ⟨rfl,rfl⟩;rw[hen,hlen];exact hk)
  generalize wA ⟨iA r.N s,r.L,r.E,r.x⟩=c at hcl ⊢;generalize kY r.N s=i at hf w1 hdk;generalize iA r.N s=M at hcl hdk;unfold aT at hcl;simp only at hcl;clear h1 h2 h3 hx h4 hdr hen hlen hlt hgr;refine aA.perm [0,2,3,4,6,7,8] (d1:=.c (.p (.i .i64 0))) (h1:=[.box [.own 6 0 c.N.length,.own 7 0 c.L.length,.mp 8,.p (.i .i64 c.x)],.arr 2 (bH r.N) false,.dead,.dead,.dead,.dead,.arr 2 (bH c.N) false,.arr 4 (cN c.L) false,.mp (pP c.E)]) ?_ rfl rfl (by unfold dD;exact hpK);refine nA aF aL func37 rfl rfl λX0 hX=>?_;simp only[f37,go_sem]
  repeat' (first|exact⟨⟩|refine sq ?_|refine uS [0,1,2,3] (hf) ?_|refine hck rfl ?_|refine hdk rfl ?_|refine uS [0,5,2,3] (hcl) ?_)
theorem zCv{r r':Rm}{d:Dr}{e:Int}{s:List UInt8}(h:Sim r d)(he:qW r s=(r',e)):aA prog 37 [.c (.ptr 0 0),.c (.p (.s s))] (aT r) λd h=>d=.c (.p (.i .i64 e))/\h=dD r':=by
 have:=zA4 (s:=s) h.okR h.okG (zGC h s);rw[he] at this;exact this
end Go.Proofs.YtlbfnbldeefgmaaGreatDoor
end
section
namespace Go.Proofs.YtlbfnbldeefgmaaGreatDoor
open Go Go.Dm Go.Proofs
theorem zOh{a b:List It}(ha:OkT a)(hb:OkT b):(eL a b).length<=100000/\(∀x∈eL a b,x.p.length<=1000000000/\x.o.t<18446744073709551616/\x.n.t<18446744073709551616)/\∀x∈eL a b,x.n.d.length<=140737488355328:=by
 have h1:=ha.len;have h2:=hb.len;have h3:=sN a b;refine⟨by omega,λx hx=>⟨?_,WN ha hb hx⟩,λx hx=>by rw[(mY hx).2];exact Nat.le_trans (hb.getd _) (by decide)⟩
 have:=zB8 ha hb x hx;unfold zK9 at this;simp only[Bool.and_eq_true] at this;exact Nat.le_trans (rC this.1.1.1.1.1.1.2) (by decide)
end Go.Proofs.YtlbfnbldeefgmaaGreatDoor
end
section
namespace Go.Proofs.YtlbfnbldeefgmaaGreatDoor
open Go Go.Dm Go.Proofs Go.Proofs.Tryz
section
abbrev evc(k:Int)(n t m:List UInt8)(c:Cl)(q:Int)(b:List UInt8):List CV:=[.p (.i .i64 k),.p (.s n),.p (.s t),.p (.s m),.p (.i .i64 c.k),.p (.s c.p),.p (.s c.to'),.p (.i .i64 c.m),.p (.f c.t),.p (.i .i64 c.at'),.p (.i .i64 c.n),.p (.sl 1 (bJ c.d)),.p (.i .i64 q),.p (.sl 1 (bJ b))]
abbrev evv(e:Ev):List CV:=evc e.k e.n e.t e.m e.c e.q e.b
abbrev rwv(w:Rw):List CV:=[.p (.i .i64 w.e),.p (.i .i64 w.a.e),.p (.i .i64 w.a.n.k),.p (.i .i64 w.a.n.m),.p (.f w.a.n.t),.p (.sl 1 (bJ w.a.n.d)),.p (.sl 1 (bJ w.a.d)),.p (.sl 1 (Go.Dm.encS w.a.l)),.p (.sl 10 (mE w.c)),.p (.sl 2 (fF w.f))]
abbrev rwe(e:Int)(c f:PV):List CV:=[.p (.i .i64 e),.p (.i .i64 0),.p (.i .i64 0),.p (.i .i64 0),.p (.f 0),.p .nil,.p .nil,.p .nil,.p c,.p f]
abbrev rwx(e:Int)(c:List Ch)(f:List Cf):Rw:=⟨e,⟨0,⟨0,0,0,[]⟩,[],[]⟩,c,f⟩
section
variable {r r':Rm}{d:Dr}{n t m:List UInt8}{c:Cl}{q e:Int}{b:List UInt8}
theorem zEJ{a:An}(h:Sim r d)(hc:OkC c)(he:SD r n c=(r',a)):
  aA prog 35 [.c (.ptr 0 0),.agg (evc 1 n t m c q b)] (aT r) λx h'=>x=.agg (rwv ⟨a.e,a,[],[]⟩)/\h'=dD r':=by
 obtain⟨ck,cp,cq,cm,ct,ca,cn,cd⟩:=c;have h1:=zO5 h hc.t hc.p hc.d hc.q hc.a he;obtain⟨ae,⟨ak,am,at_,ad⟩,ab,al⟩:=a;clear hc he;refine aA.perm [0,7,8,9,1,2,3] (d1:=.agg (rwv ⟨ae,⟨ae,⟨ak,am,at_,ad⟩,ab,al⟩,[],[]⟩)) (h1:=aT r'++[.box (evc 1 n t m ⟨ck,cp,cq,cm,ct,ca,cn,cd⟩ q b),.box ([.p (.i .i64 ae),.p (.i .i64 ae),.p (.i .i64 ak),.p (.i .i64 am),.p (.f at_),.p (.sl 1 (bJ ad)),.p (.sl 1 (bJ ab)),.p (.sl 1 (Go.Dm.encS al)),.p .nil,.p .nil]),.box ([.p (.i .i64 ae),.p (.i .i64 ae),.p (.i .i64 ak),.p (.i .i64 am),.p (.f at_),.p (.sl 1 (bJ ad)),.p (.sl 1 (bJ ab)),.p (.sl 1 (Go.Dm.encS al)),.p .nil,.p .nil])]) (aH ?_) rfl rfl (by unfold dD aT;exact hpK);clear h;refine nA aF aL func35 rfl rfl λX0 hX=>?_;simp only[f35,go_sem]
 repeat' (first|exact⟨⟩|refine sp ?_|refine uS [0,1,2,3] (h1) ?_)
 all_goals (repeat' (first|exact .inr ⟨_,rfl⟩|refine And.intro ?_ ?_))
theorem zEK(h:Sim r d)(ht:t.length<=1000000000)(he:iY r n t=(r',e)):
  aA prog 35 [.c (.ptr 0 0),.agg (evc 2 n t m c q b)] (aT r) λx h'=>x=.agg (rwv (rwx e [] []))/\h'=dD r':=by
 have h1:=XD h ht he;clear he;refine aA.perm [0,1,2,3,7,8,9] (d1:=.agg (rwv (rwx e [] []))) (h1:=[.box [.own 7 0 r'.N.length,.own 8 0 r'.L.length,.mp 9,.p (.i .i64 r'.x)],.dead,.dead,.dead,.box (evc 2 n t m c q b),.box (rwe e .nil .nil),.box (rwe e .nil .nil),.arr 2 (bH r'.N) false,.arr 4 (cN r'.L) false,.mp (pP r'.E)]) (aH ?_) rfl rfl (by unfold dD;exact hpK);clear h;refine nA aF aL func35 rfl rfl λX0 hX=>?_;simp only[f35,go_sem]
 repeat' (first|exact⟨⟩|refine sp ?_|refine uS [0,1,2,3] (h1) ?_)
 all_goals (repeat' (first|exact .inr ⟨_,rfl⟩|refine And.intro ?_ ?_))
theorem zEL(h:Sim r d)(ht:t.length<=1000000000)(he:CN r n t=(r',e)):
  aA prog 35 [.c (.ptr 0 0),.agg (evc 3 n t m c q b)] (aT r) λx h'=>x=.agg (rwv (rwx e [] []))/\h'=dD r':=by
 have h1:=zMT h ht he;clear he;refine aA.perm [0,1,2,3,7,8,9] (d1:=.agg (rwv (rwx e [] []))) (h1:=[.box [.own 7 0 r'.N.length,.own 8 0 r'.L.length,.mp 9,.p (.i .i64 r'.x)],.dead,.dead,.dead,.box (evc 3 n t m c q b),.box (rwe e .nil .nil),.box (rwe e .nil .nil),.arr 2 (bH r'.N) false,.arr 4 (cN r'.L) false,.mp (pP r'.E)]) (aH ?_) rfl rfl (by unfold dD;exact hpK);clear h;refine nA aF aL func35 rfl rfl λX0 hX=>?_;simp only[f35,go_sem]
 repeat' (first|exact⟨⟩|refine sp ?_|refine uS [0,1,2,3] (h1) ?_)
 all_goals (repeat' (first|exact .inr ⟨_,rfl⟩|refine And.intro ?_ ?_))
theorem zEM{l:List Ch}(h:Sim r' d)(hr:r'=r)(he:gJ r n t=(l,e)):
  aA prog 35 [.c (.ptr 0 0),.agg (evc 4 n t m c q b)] (aT r) λx h'=>x=.agg (rwv (rwx e l []))/\h'=dD r':=by
 subst hr;have h1:=zCa h he;clear he;refine aA.perm [0,7,8,9,1,2,3] (d1:=.agg (rwv (rwx e l []))) (h1:=aT r'++[.box (evc 4 n t m c q b),.box (rwe e (.sl 10 (mE l)) .nil),.box (rwe e (.sl 10 (mE l)) .nil)]) (aH ?_) rfl rfl (by unfold dD aT;exact hpK);clear h;refine nA aF aL func35 rfl rfl λX0 hX=>?_;simp only[f35,go_sem]
 repeat' (first|exact⟨⟩|refine sp ?_|refine uS [0,1,2,3] (h1) ?_)
 all_goals (repeat' (first|exact .inr ⟨_,rfl⟩|refine And.intro ?_ ?_))
theorem zEN{l:List Ch}(h:Sim r d)(hl:l.length<=100000)(hp:∀x∈l,x.p.length<=1000000000/\x.o.t<18446744073709551616/\x.n.t<18446744073709551616)(hd:∀x∈l,x.n.d.length<=140737488355328)(hd1:gJ r t m=(l,0))(he:hU r n l=(r',e)):
  aA prog 35 [.c (.ptr 0 0),.agg (evc 5 n t m c q b)] (aT r) λx h'=>x=.agg (rwv (rwx e [] []))/\h'=dD r':=by
 have h1:=zCa h hd1;have h2:=zJ7 h hl hp hd he;clear he hd1 hl hp hd;refine aA.perm [0,7,8,9,1,2,3] (d1:=.agg (rwv (rwx e [] []))) (h1:=aT r'++[.box (evc 5 n t m c q b),.box (rwe e .nil .nil),.box (rwe e .nil .nil)]) (aH ?_) rfl rfl (by unfold dD aT;exact hpK);clear h;refine nA aF aL func35 rfl rfl λX0 hX=>?_;simp only[f35,go_sem]
 repeat' (first|exact⟨⟩|refine sp ?_|refine uS [0,1,2,3] (h1) ?_|refine uS [0,1,2,3] (h2) ?_)
 all_goals (repeat' (first|exact .inr ⟨_,rfl⟩|refine And.intro ?_ ?_))
theorem zAL{l:List Ch}(h:Sim r' d)(hr:r'=r)(h0:(e==0)=false)(hd1:gJ r t m=(l,e)):
  aA prog 35 [.c (.ptr 0 0),.agg (evc 5 n t m c q b)] (aT r) λx h'=>x=.agg (rwv (rwx e [] []))/\h'=dD r':=by
 subst hr;have h1:=zCa h hd1;clear hd1;refine aA.perm [0,7,8,9,1,2,3] (d1:=.agg (rwv (rwx e [] []))) (h1:=aT r'++[.box (evc 5 n t m c q b),.box (rwe e .nil .nil),.box (rwe e .nil .nil)]) (aH ?_) rfl rfl (by unfold dD aT;exact hpK);clear h;refine nA aF aL func35 rfl rfl λX0 hX=>?_;simp only[f35,go_sem]
 repeat' (first|exact⟨⟩|refine sp ?_|refine uS [0,1,2,3] (h1) ?_)
 all_goals (repeat' (first|exact .inr ⟨_,rfl⟩|refine And.intro ?_ ?_))
theorem zEO{F:List Cf}(h:Sim r d)(hm:m.length<=1000000000)(he:jA r n t m=(r',F,e)):
  aA prog 35 [.c (.ptr 0 0),.agg (evc 6 n t m c q b)] (aT r) λx h'=>x=.agg (rwv (rwx e [] F))/\h'=dD r':=by
 have h1:=zLb h hm he;clear he;refine aA.perm [0,1,2,3,7,8,9] (d1:=.agg (rwv (rwx e [] F))) (h1:=[.box [.own 7 0 r'.N.length,.own 8 0 r'.L.length,.mp 9,.p (.i .i64 r'.x)],.dead,.dead,.dead,.box (evc 6 n t m c q b),.box (rwe e .nil (.sl 2 (fF F))),.box (rwe e .nil (.sl 2 (fF F))),.arr 2 (bH r'.N) false,.arr 4 (cN r'.L) false,.mp (pP r'.E)]) (aH ?_) rfl rfl (by unfold dD;exact hpK);clear h;refine nA aF aL func35 rfl rfl λX0 hX=>?_;simp only[f35,go_sem]
 repeat' (first|exact⟨⟩|refine sp ?_|refine uS [0,1,2,3] (h1) ?_)
 all_goals (repeat' (first|exact .inr ⟨_,rfl⟩|refine And.intro ?_ ?_))
theorem zEP{F:List Cf}(h:Sim r d)(he:fV r n t=(r',F,e)):
  aA prog 35 [.c (.ptr 0 0),.agg (evc 7 n t m c q b)] (aT r) λx h'=>x=.agg (rwv (rwx e [] F))/\h'=dD r':=by
 have h1:=zIt h he;clear he;refine aA.perm [0,1,2,3,7,8,9] (d1:=.agg (rwv (rwx e [] F))) (h1:=[.box [.own 7 0 r'.N.length,.own 8 0 r'.L.length,.mp 9,.p (.i .i64 r'.x)],.dead,.dead,.dead,.box (evc 7 n t m c q b),.box (rwe e .nil (.sl 2 (fF F))),.box (rwe e .nil (.sl 2 (fF F))),.arr 2 (bH r'.N) false,.arr 4 (cN r'.L) false,.mp (pP r'.E)]) (aH ?_) rfl rfl (by unfold dD;exact hpK);clear h;refine nA aF aL func35 rfl rfl λX0 hX=>?_;simp only[f35,go_sem]
 repeat' (first|exact⟨⟩|refine sp ?_|refine uS [0,1,2,3] (h1) ?_)
 all_goals (repeat' (first|exact .inr ⟨_,rfl⟩|refine And.intro ?_ ?_))
theorem zEQ(h:Sim r d)(he:qW r n=(r',e)):
  aA prog 35 [.c (.ptr 0 0),.agg (evc 8 n t m c q b)] (aT r) λx h'=>x=.agg (rwv (rwx e [] []))/\h'=dD r':=by
 have h1:=zCv h he;clear he;refine aA.perm [0,1,2,3,7,8,9] (d1:=.agg (rwv (rwx e [] []))) (h1:=[.box [.own 7 0 r'.N.length,.own 8 0 r'.L.length,.mp 9,.p (.i .i64 r'.x)],.dead,.dead,.dead,.box (evc 8 n t m c q b),.box (rwe e .nil .nil),.box (rwe e .nil .nil),.arr 2 (bH r'.N) false,.arr 4 (cN r'.L) false,.mp (pP r'.E)]) (aH ?_) rfl rfl (by unfold dD;exact hpK);clear h;refine nA aF aL func35 rfl rfl λX0 hX=>?_;simp only[f35,go_sem]
 repeat' (first|exact⟨⟩|refine sp ?_|refine uS [0,1,2,3] (h1) ?_)
 all_goals (repeat' (first|exact .inr ⟨_,rfl⟩|refine And.intro ?_ ?_))
theorem zEI{k:Int}(h:Sim r' d)(hr:r'=r)(k1:(k==1)=false)(k2:(k==2)=false)(k3:(k==3)=false)(k4:(k==4)=false)(k5:(k==5)=false)(k6:(k==6)=false)(k7:(k==7)=false)(k8:(k==8)=false):
  aA prog 35 [.c (.ptr 0 0),.agg (evc k n t m c q b)] (aT r) λx h'=>x=.agg (rwv (rwx 0 [] []))/\h'=dD r':=by
 subst hr;refine aA.perm [0,7,8,9,1,2,3] (d1:=.agg (rwv (rwx 0 [] []))) (h1:=aT r'++[.box (evc k n t m c q b),.box (rwe 0 .nil .nil),.box (rwe 0 .nil .nil)]) (aH ?_) rfl rfl (by unfold dD aT;exact hpK);clear h;refine nA aF aL func35 rfl rfl λX0 hX=>?_;simp only[f35,go_sem]
 repeat' (first|exact⟨⟩|refine sp ?_)
 all_goals (repeat' (first|exact .inr ⟨_,rfl⟩|refine And.intro ?_ ?_))
end
theorem zGo{r:Rm}{d:Dr}(h:Sim r d)(a b:List UInt8):(gJ r a b).1.length<=100000/\(∀x∈(gJ r a b).1,x.p.length<=1000000000/\x.o.t<18446744073709551616/\x.n.t<18446744073709551616)/\∀x∈(gJ r a b).1,x.n.d.length<=140737488355328:=by
 have h1:=qE h a;have h2:=qE h b;unfold gJ;split
 .exact⟨by simp,by simp,by simp⟩
 .split
  .exact⟨by simp,by simp,by simp⟩
  .exact zOh h1 h2
theorem zIm{r:Rm}{d:Dr}{e:Ev}(h:Sim r d)(he:OkEv e):aA prog 35 [.c (.ptr 0 0),.agg (evv e)] (aT r) λx h'=>x=.agg (rwv (AX r e).2)/\h'=dD (AX r e).1:=by
 obtain⟨k,n,t,m,c,q,b⟩:=e;have hc:=he.c;have hn:=he.n;have ht:=he.t;have hm:=he.m;simp only at hc hn ht hm;by_cases k1:k=1
 .subst k1;exact zEJ h hc rfl
 by_cases k2:k=2
 .subst k2;exact zEK h ht rfl
 by_cases k3:k=3
 .subst k3;exact zEL h ht rfl
 by_cases k4:k=4
 .subst k4;exact zEM h rfl rfl
 by_cases k5:k=5
 .subst k5;obtain⟨g1,g2,g3⟩:=zGo h t m;by_cases h0:(gJ r t m).2=0
  .have:=zEN (q:=q) (b:=b) (c:=c) (n:=n) (e:=(hU r n (gJ r t m).1).2) h g1 g2 g3 (Prod.ext rfl h0) rfl;have e2:AX r ⟨5,n,t,m,c,q,b⟩=((hU r n (gJ r t m).1).1,rwx (hU r n (gJ r t m).1).2 [] []):=by
    show (if (gJ r t m).2==0 then _ else _)=_
    rw[h0];rfl
   rw[e2];exact this
  .have hb:((gJ r t m).2==0)=false:=by simpa using h0
   have:=zAL (q:=q) (b:=b) (c:=c) (n:=n) (t:=t) (m:=m) h rfl hb rfl;have e2:AX r ⟨5,n,t,m,c,q,b⟩=(r,rwx (gJ r t m).2 [] []):=by
    show (if (gJ r t m).2==0 then _ else _)=_
    rw[hb];rfl
   rw[e2];exact this
 by_cases k6:k=6
 .subst k6;exact zEO h hm rfl
 by_cases k7:k=7
 .subst k7;exact zEP h rfl
 by_cases k8:k=8
 .subst k8;exact zEQ h rfl
 have b1:(k==1)=false:=by simpa using k1
 have b2:(k==2)=false:=by simpa using k2
 have b3:(k==3)=false:=by simpa using k3
 have b4:(k==4)=false:=by simpa using k4
 have b5:(k==5)=false:=by simpa using k5
 have b6:(k==6)=false:=by simpa using k6
 have b7:(k==7)=false:=by simpa using k7
 have b8:(k==8)=false:=by simpa using k8
 have:=zEI (n:=n) (t:=t) (m:=m) (q:=q) (b:=b) (c:=c) h rfl b1 b2 b3 b4 b5 b6 b7 b8;have e2:AX r ⟨k,n,t,m,c,q,b⟩=(r,rwx 0 [] []):=by
  unfold AX;simp only[b1,b2,b3,b4,b5,b6,b7,b8,Bool.false_eq_true,if_false];rfl
 rw[e2];exact this
end
theorem sv_s(l:List UInt8):(SV.s l).pv=.s l:=rfl
theorem zLM(l:List (List UInt8)){n:Nat}(h:n<l.length):∃s∈l,(l.map SV.s).getD n (.i 0)=.s s:=by
 rw[List.getD_eq_getElem?_getD,List.getElem?_map,List.getElem?_eq_getElem h];exact⟨_,List.getElem_mem h,rfl⟩
theorem HZ(n:Int):∃s:List UInt8,s.length<=100/\aA prog 72 [.c (.p (.i .i64 n))] [] λr h=>r=.c (.p (.s s))/\h=[]:=by
 have hpk:=jU (n:=n) (m:=7) (by decide) (by decide);have b1:=Int.emod_nonneg n (show (7:Int)≠0 by decide)
 have b2:=Int.emod_lt_of_pos n (show (0:Int)<7 by decide)
 obtain⟨s,hm,hs⟩:=zLM YC (n:=(n % 7).toNat) (by show _<7;omega);have hl:∀s∈YC,s.length<=100:=by decide
 have hs:(said 1).getD (n % 7).toNat (.i 0)=.s s:=hs;have hq:n % 7<((said 1).length:Int):=b2;cases h53:(n.tmod 53==52)
 .refine⟨s,hl s hm,?_⟩;generalize n % 7=q at *;clear hm hl;refine eT func72 λX0 hX=>?_;simp only[f72,go_sem]
  repeat' (first|simp only[*,go_sem,Nat.reduceLT,Nat.reduceEqDiff,↓reduceIte,Int.reduceEq,sv_s]|refine uF (hpk) ?_)
 .refine⟨[110,111,47,110,97,109,101],by decide,?_⟩
  refine eT func72 λX0 hX=>?_;simp only[f72,go_sem]
  repeat' (first|exact⟨⟩|refine sp ?_)
abbrev rwcv(k a b c n:Int)(x:RC)(m:List UInt8):List CV:=[.p (.i .i64 k),.p (.i .i64 a),.p (.i .i64 b),.p (.i .i64 c),.p (.i .i64 n),.p (.i .i64 x.k),.p (.i .i64 x.p),.p (.i .i64 x.to'),.p (.i .i64 x.m),.p (.i .i64 x.t),.p (.i .i64 x.at'),.p (.i .i64 x.n),.p (.i .i64 x.how),.p (.f x.x),.p (.sl 1 (bJ x.d)),.p (.s x.s),.p (.sl 1 (bJ m))]
theorem zHX{x:RW}(hx:zMe x):∃e:Ev,OkEv e/\aA prog 19 [.agg (rwcv x.k x.a x.b x.c x.n x.r x.m),.c (.p (.b false))] [] λr h=>r=.agg (evv e)/\h=[]:=by
 obtain⟨k,a,b,c,n,x,m⟩:=x;obtain⟨⟨hd,hs,hxx⟩,hm⟩:=hx;simp only at hd hs hxx hm ⊢;obtain⟨ck,hcall⟩:=zMs (x:=x) hs hd;have hok:=zGf (k:=ck) (x:=x) hs hxx;have hck0:OkC ⟨0,[],[],0,0,0,0,[]⟩:=⟨by simp,by simp,by decide,by simp,by decide⟩
 obtain⟨sa,la,ha⟩:=HZ a;obtain⟨sb,lb,hb⟩:=HZ b;obtain⟨sc,lc,hc⟩:=HZ c;have hpk:=jU (n:=k) (m:=25) (by decide) (by decide);have b1:=Int.emod_nonneg k (show (25:Int)≠0 by decide)
 have b2:=Int.emod_lt_of_pos k (show (0:Int)<25 by decide)
 have hml:(iZ).length<=100:=by decide
 have h0l:([]:List UInt8).length<=100:=by decide
 have up:∀{s:List UInt8},s.length<=100->s.length<=1000000000:=λh=>Nat.le_trans h (by decide);generalize GI ck x=cl at hcall hok;obtain⟨c1,c2,c3,c4,c5,c6,c7,c8⟩:=cl;generalize k % 25=q at hpk b1 b2;have ok:∀{k:Int} {n t m:List UInt8} {c:Cl} {q:Int} {b:List UInt8},OkC c->n.length<=100->t.length<=100->m.length<=100->OkEv ⟨k,n,t,m,c,q,b⟩:=λh1 h2 h3 h4=>⟨h1,up h2,up h3,up h4⟩;by_cases q1:q<12
 .have d1:decide (q<12)=true:=decide_eq_true q1;cases hr:decide (a.tmod 3 > 0)
  .refine⟨⟨1,sa,[],[],⟨c1,c2,c3,c4,c5,c6,c7,c8⟩,0,[]⟩,ok hok la h0l h0l,aH ?_⟩;clear hok hck0 ok up;refine eT func19 λX0 hX=>?_;simp only[f19,go_sem]
   repeat' (first|exact⟨⟩|refine sp ?_|refine uF (ha) ?_|refine uF (hpk) ?_|refine uN (hcall) ?_)
   all_goals (repeat' (exact .inr ⟨_,rfl⟩))
  .refine⟨⟨1,iZ,[],[],⟨c1,c2,c3,c4,c5,c6,c7,c8⟩,0,[]⟩,ok hok hml h0l h0l,aH ?_⟩;clear hok hck0 ok up;refine eT func19 λX0 hX=>?_;simp only[f19,go_sem]
   repeat' (first|exact⟨⟩|refine sp ?_|refine uF (ha) ?_|refine uF (hpk) ?_|refine uN (hcall) ?_)
   all_goals (repeat' (first|exact rfl|exact .inr ⟨_,rfl⟩|refine And.intro ?_ ?_))
 have d1:decide (q<12)=false:=decide_eq_false q1;by_cases q2:q<14
 .have d2:decide (q<14)=true:=decide_eq_true q2;cases hr:(a.tmod 2==0)
  .refine⟨⟨2,sa,sb,[],⟨0,[],[],0,0,0,0,[]⟩,0,[]⟩,ok hck0 la lb h0l,aH ?_⟩;clear hok hck0 ok up;refine eT func19 λX0 hX=>?_;simp only[f19,go_sem]
   repeat' (first|exact⟨⟩|refine sp ?_|refine uF (ha) ?_|refine uF (hb) ?_|refine uF (hpk) ?_)
   all_goals (repeat' (first|exact .inr ⟨_,rfl⟩|refine And.intro ?_ ?_))
  .refine⟨⟨2,iZ,sb,[],⟨0,[],[],0,0,0,0,[]⟩,0,[]⟩,ok hck0 hml lb h0l,aH ?_⟩;clear hok hck0 ok up;refine eT func19 λX0 hX=>?_;simp only[f19,go_sem]
   repeat' (first|exact⟨⟩|refine sp ?_|refine uF (ha) ?_|refine uF (hb) ?_|refine uF (hpk) ?_)
   all_goals (repeat' (first|exact rfl|exact .inr ⟨_,rfl⟩|refine And.intro ?_ ?_))
 have d2:decide (q<14)=false:=decide_eq_false q2;by_cases q3:q<16
 .have d3:decide (q<16)=true:=decide_eq_true q3;refine⟨⟨3,sa,sb,[],⟨0,[],[],0,0,0,0,[]⟩,0,[]⟩,ok hck0 la lb h0l,aH ?_⟩;clear hok hck0 ok up;refine eT func19 λX0 hX=>?_;simp only[f19,go_sem]
  repeat' (first|exact⟨⟩|refine sp ?_|refine uF (ha) ?_|refine uF (hb) ?_|refine uF (hpk) ?_)
  all_goals (repeat' (first|exact .inr ⟨_,rfl⟩|refine And.intro ?_ ?_))
 have d3:decide (q<16)=false:=decide_eq_false q3;cases d4:(q==16);rotate_left 1
 .refine⟨⟨4,sa,sb,[],⟨0,[],[],0,0,0,0,[]⟩,0,[]⟩,ok hck0 la lb h0l,aH ?_⟩;clear hok hck0 ok up;refine eT func19 λX0 hX=>?_;simp only[f19,go_sem]
  repeat' (first|exact⟨⟩|refine sp ?_|refine uF (ha) ?_|refine uF (hb) ?_|refine uF (hpk) ?_)
  all_goals (repeat' (first|exact .inr ⟨_,rfl⟩|refine And.intro ?_ ?_))
 cases d5:(q==17);rotate_left 1
 .refine⟨⟨5,sa,sb,sc,⟨0,[],[],0,0,0,0,[]⟩,0,[]⟩,ok hck0 la lb lc,aH ?_⟩;clear hok hck0 ok up;refine eT func19 λX0 hX=>?_;simp only[f19,go_sem]
  repeat' (first|exact⟨⟩|refine sp ?_|refine uF (ha) ?_|refine uF (hb) ?_|refine uF (hc) ?_|refine uF (hpk) ?_)
  all_goals (repeat' (first|exact .inr ⟨_,rfl⟩|refine And.intro ?_ ?_))
 by_cases q6:q<20
 .have d6:decide (q<20)=true:=decide_eq_true q6;refine⟨⟨6,sa,sb,sc,⟨0,[],[],0,0,0,0,[]⟩,0,[]⟩,ok hck0 la lb lc,aH ?_⟩;clear hok hck0 ok up;refine eT func19 λX0 hX=>?_;simp only[f19,go_sem]
  repeat' (first|exact⟨⟩|refine sp ?_|refine uF (ha) ?_|refine uF (hb) ?_|refine uF (hc) ?_|refine uF (hpk) ?_)
  all_goals (repeat' (first|exact .inr ⟨_,rfl⟩|refine And.intro ?_ ?_))
 have d6:decide (q<20)=false:=decide_eq_false q6;cases d7:(q==20);rotate_left 1
 .refine⟨⟨7,sa,sb,[],⟨0,[],[],0,0,0,0,[]⟩,0,[]⟩,ok hck0 la lb h0l,aH ?_⟩;clear hok hck0 ok up;refine eT func19 λX0 hX=>?_;simp only[f19,go_sem]
  repeat' (first|exact⟨⟩|refine sp ?_|refine uF (ha) ?_|refine uF (hb) ?_|refine uF (hpk) ?_)
  all_goals (repeat' (first|exact .inr ⟨_,rfl⟩|refine And.intro ?_ ?_))
 cases d8:(q==21);rotate_left 1
 .cases hr:decide (b.tmod 3 > 0)
  .refine⟨⟨8,sa,[],[],⟨0,[],[],0,0,0,0,[]⟩,0,[]⟩,ok hck0 la h0l h0l,aH ?_⟩;clear hok hck0 ok up;refine eT func19 λX0 hX=>?_;simp only[f19,go_sem]
   repeat' (first|exact⟨⟩|refine sp ?_|refine uF (ha) ?_|refine uF (hpk) ?_)
   all_goals (repeat' (first|exact .inr ⟨_,rfl⟩|refine And.intro ?_ ?_))
  .refine⟨⟨9,sa,[],[],⟨0,[],[],0,0,0,0,[]⟩,0,[]⟩,ok hck0 la h0l h0l,aH ?_⟩;clear hok hck0 ok up;refine eT func19 λX0 hX=>?_;simp only[f19,go_sem]
   repeat' (first|exact⟨⟩|refine sp ?_|refine uF (ha) ?_|refine uF (hpk) ?_)
   all_goals (repeat' (first|exact .inr ⟨_,rfl⟩|refine And.intro ?_ ?_))
 cases d9:(q==22)
 .refine⟨⟨9,sa,[],[],⟨0,[],[],0,0,0,0,[]⟩,0,[]⟩,ok hck0 la h0l h0l,aH ?_⟩;clear hok hck0 ok up;refine eT func19 λX0 hX=>?_;simp only[f19,go_sem]
  repeat' (first|exact⟨⟩|refine sp ?_|refine uF (ha) ?_|refine uF (hpk) ?_)
  all_goals (repeat' (first|exact .inr ⟨_,rfl⟩|refine And.intro ?_ ?_))
 .refine⟨⟨9,sa,[],[],⟨0,[],[],0,0,0,0,[]⟩,0,[]⟩,ok hck0 la h0l h0l,aH ?_⟩;clear hok hck0 ok up;refine eT func19 λX0 hX=>?_;simp only[f19,go_sem]
  repeat' (first|exact⟨⟩|refine sp ?_|refine uF (ha) ?_|refine uF (hpk) ?_)
  all_goals (repeat' (first|exact .inr ⟨_,rfl⟩|refine And.intro ?_ ?_))
theorem PQ:aA prog 8 [] [] λd h=>d=.c (.ptr 0 0)/\h=aT zMi:=by
 refine aA.perm [3,0,1,2] (d1:=.c (.ptr 3 0)) (h1:=[.arr 2 (bH zMi.N) false,.arr 4 (cN zMi.L) false,.mp [],.box [.own 0 0 1,.own 1 0 2,.mp 2,.p (.i .i64 3)]]) ?_ rfl rfl (by unfold aT;exact hpK);refine nA aF aL func8 rfl rfl λX0 hX=>?_;simp only[Tryz.f8,go_sem]
 repeat' (first|exact⟨⟩|refine sp ?_|refine ai ?_)
 all_goals rfl
theorem zLd{p:List UInt8}:aA prog 41 [.c (.p (.s p))] [] λr h=>r=.agg (clc 1 p [] 493 0 0 0 [])/\h=[]:=by
 refine aH ?_;refine eT func41 λX0 hX=>?_;simp only[f41,go_sem]
 repeat' (first|exact⟨⟩|refine sp ?_)
 all_goals (repeat' (exact .inr ⟨_,rfl⟩))
theorem zO6{r r':Rm}{d:Dr}{s p:List UInt8}{a:An}(h:Sim r d)(hp:p.length<=1000)(he:SD r s (mkS p)=(r',a)):
  aA prog 10 [.c (.ptr 0 0),.c (.p (.s s)),.agg (clc 1 p [] 493 0 0 0 [])] (aT r) λd h=>d=.agg (anv a)/\h=aT r' :=
 zO5 h (by decide) (by omega) (by decide) (by decide) (by decide) he
theorem zDO:aA prog 9 [] [] λr h=>r=.c (.p (.b true))/\h=[]:=by
 obtain⟨r1,r2,r3,d1,d2,d3,a,b,e1,s1,e2,a2,s2,e3,b3,s3,n3,x3⟩:=TE;have c1:=XD (s:=iZ) (sn:=v1S) TS (by decide) e1;have m:=zLd (p:=[97]);have c2:=zO6 (s:=v1S) s1 (by decide) e2;have c3:=zO6 (s:=iZ) s2 (by decide) e3;have c4:=rT s3.okR;have c5:=zA8 (r:=r3);obtain⟨ae,⟨ak,am,at_,ad⟩,ab,al⟩:=a;obtain⟨be,⟨bk,bm,bt,bd⟩,bb,bl⟩:=b;simp only at a2 b3;subst a2 b3;rw[x3] at c5;have hn:((r3.N.length:Int)==2)=true:=by rw[n3];rfl
 clear n3 x3;clear e1 s1 e2 s2 e3 s3;refine eT func9 λX0 hX=>?_;simp only[f9,go_sem]
 repeat' (first|exact⟨⟩|refine sp ?_|refine uS [] (PQ) ?_|refine uS [0,1,2,3] (c1) ?_|refine uN (m) ?_|refine uS [0,4,5,6] (c2) ?_|refine uS [0,4,5,6] (c3) ?_|refine uS [0,4,5,6] (c4) ?_|refine uS [0,4,5,6] (c5) ?_)
end Go.Proofs.YtlbfnbldeefgmaaGreatDoor
end
