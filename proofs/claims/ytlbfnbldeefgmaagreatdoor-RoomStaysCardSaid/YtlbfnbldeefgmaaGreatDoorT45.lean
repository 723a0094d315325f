/- Part 46 of the proof of roomStays_card, set without needless blanks. No condition. -/
import Derived.Test.YtlbfnbldeefgmaaGreatDoorT44
set_option linter.all false
set_option maxRecDepth 100000
set_option maxHeartbeats 16000000
section
namespace Go.Proofs.YtlbfnbldeefgmaaGreatDoor
open Go Go.Dm Go.Shelf Go.Proofs.Tryz
def TH:Go.Shelf.Ren:=⟨λ| 45=>94|n=>n,λ| 22=>49 | 23=>73 | 3=>3 | 4=>4 | 0=>0|n=>n,fun|n=>n⟩
theorem zK8:DelL prog TH:={
 mixed:=by kernel_rfl
 f45:=⟨Tryz.f94.name,by decide,Tryz.func94.trans (congrArg some (by kernel_rfl))⟩
 t0:=Tryz.underlying0
 a0:=Tryz.isAgg0
 z0:=Tryz.sizeOf0
 v0:=Tryz.zeroValue0
 t3:=Tryz.underlying3
 a3:=Tryz.isAgg3
 z3:=Tryz.sizeOf3
 v3:=Tryz.zeroValue3
 t4:=Tryz.underlying4
 a4:=Tryz.isAgg4
 z4:=Tryz.sizeOf4
 v4:=Tryz.zeroValue4
 t22:=Tryz.underlying49
 a22:=Tryz.isAgg49
 z22:=Tryz.sizeOf49
 v22:=Tryz.zeroValue49 }
theorem zK9{h:aB}{id n i:Nat}{es:List (List PV)}(hid:h[id]?=some (.arr 2 es false))(hn:es.length=n)(hin:i<n):
  aA prog 94 [.c (.own id 0 n),.c (.p (.i .i64 i)),.c (.p (.i .i64 (i+1)))] h λd h'=>d=.c (.own h.length 0 (n-1))/\h'=h.set id .dead++[.arr 2 (es.take i++es.drop (i+1)) false] :=
 HG (k:=2) aD zK8 (enters func94 rfl rfl) (by show (tab 73).size=2;rw[tab73]) (by decide) hid hn hin
end Go.Proofs.YtlbfnbldeefgmaaGreatDoor
end
section
namespace Go.Proofs.YtlbfnbldeefgmaaGreatDoor
open Go Go.Dm Go.Proofs Go.Proofs.Tryz
theorem zBJ{r:Rm}{s:List UInt8}(hr:OkR r)(hgr:OkG r.L)(h3:OkR ⟨lI r.N s,r.L,r.E,r.x⟩):
  aA prog 37 [.c (.ptr 0 0),.c (.p (.s s))] (aS r) λd h=>d=.c (.p (.i .i64 (vE r s).2))/\h=dI (vE r s).1:=by
 have hf:=qO (r:=r) (s:=s) (by have:=hr.nl;omega) hr.srt;have hnl:=hr.nl;unfold vE;rcases WB hr.srt (s:=s) with⟨h1,h2⟩|⟨x,h1,h2,hx,h4⟩
 .rw[h1] at hf ⊢;simp only[Bool.not_false,if_true];refine aA.perm [0,4,5,6,1,2,3] (d1:=.c (.p (.i .i64 6))) (h1:=aS r) ?_ rfl rfl (by unfold dI aS;exact hpK);clear h1 h2 h3;refine nJ aD aL func37 rfl rfl λX0 hX=>?_;simp only[f37,go_sem]
  repeat' (first|exact⟨⟩|refine sq ?_|refine uS [0,1,2,3] (hf) ?_)
 .rw[h1] at hf ⊢;simp only[Bool.not_true,Bool.false_eq_true,if_false];have hcl:=zCD h3 hgr;have hlt:=(List.getElem?_eq_some_iff.1 hx).1;have w1:IntKind.i64.wrap ((lJ r.N s:Int)+1)=(lJ r.N s:Int)+1:=wrap_i64 (by omega) (by omega);have hdr:=TO hr.srt (List.mem_of_getElem? hx);rw[h4] at hdr;have hen:(aV r.N).take (lJ r.N s)++(aV r.N).drop (lJ r.N s+1)=aV (lI r.N s):=by rw[hdr];simp[aV,List.map_take,List.map_drop]
  have hlen:r.N.length-1=(lI r.N s).length:=by rw[hdr,List.length_append,List.length_take,List.length_drop];omega
  have hck:∀{h:aB} {K:DV->aB->Prop},h[1]?=some (.arr 2 (aV r.N) false)->K (.c (.own h.length 0 r.N.length)) (h++[.arr 2 (aV r.N) false])->aA prog 51 [.c (.own 1 0 r.N.length)] h K:=λh0 hk=>yX (by omega) rfl h0 hk;have hdk:∀{h:aB} {K:DV->aB->Prop},h[4]?=some (.arr 2 (aV r.N) false)->K (.c (.own h.length 0 (lI r.N s).length)) (h.set 4 .dead++[.arr 2 (aV (lI r.N s)) false])->aA prog 94 [.c (.own 4 0 r.N.length),.c (.p (.i .i64 (lJ r.N s))),.c (.p (.i .i64 ((lJ r.N s:Int)+1)))] h K:=λh0 hk=>aA.mono (zK9 h0 (fF _) hlt) (by rintro _ _ ⟨rfl,rfl⟩;rw[hen,hlen];exact hk)
  generalize DZ ⟨lI r.N s,r.L,r.E,r.x⟩=c at hcl ⊢;generalize lJ r.N s=i at hf w1 hdk;generalize lI r.N s=M at hcl hdk;unfold aS at hcl;simp only at hcl;clear h1 h2 h3 hx h4 hdr hen hlen hlt hgr;refine aA.perm [0,2,3,4,6,7,8] (d1:=.c (.p (.i .i64 0))) (h1:=[.box [.own 6 0 c.N.length,.own 7 0 c.L.length,.mp 8,.p (.i .i64 c.x)],.arr 2 (aV r.N) false,.dead,.dead,.dead,.dead,.arr 2 (aV c.N) false,.arr 4 (cM c.L) false,.mp (jI c.E)]) ?_ rfl rfl (by unfold dI;exact hpK);refine nJ aD aL func37 rfl rfl λX0 hX=>?_;simp only[f37,go_sem]
  repeat' (first|exact⟨⟩|refine sq ?_|refine uS [0,1,2,3] (hf) ?_|refine hck rfl ?_|refine hdk rfl ?_|refine uS [0,5,2,3] (hcl) ?_)
theorem zNF{r r':Rm}{d:Dr}{e:Int}{s:List UInt8}(h:Sim r d)(he:vE r s=(r',e)):aA prog 37 [.c (.ptr 0 0),.c (.p (.s s))] (aS r) λd h=>d=.c (.p (.i .i64 e))/\h=dI r':=by
 have:=zBJ (s:=s) h.okR h.okG (zHw h s);rw[he] at this;exact this
end Go.Proofs.YtlbfnbldeefgmaaGreatDoor
end
section
namespace Go.Proofs.YtlbfnbldeefgmaaGreatDoor
open Go Go.Dm Go.Proofs
theorem zPh{a b:List It}(ha:OkT a)(hb:OkT b):(eS a b).length<=100000/\(∀x∈eS a b,x.p.length<=1000000000/\x.o.t<18446744073709551616/\x.n.t<18446744073709551616)/\∀x∈eS a b,x.n.d.length<=140737488355328:=by
 have h1:=ha.len;have h2:=hb.len;have h3:=sX a b;refine⟨by omega,λx hx=>⟨?_,XT ha hb hx⟩,λx hx=>by rw[(nH hx).2];exact Nat.le_trans (hb.getd _) (by decide)⟩
 have:=zCU ha hb x hx;unfold zL0 at this;simp only[Bool.and_eq_true] at this;exact Nat.le_trans (rO this.1.1.1.1.1.1.2) (by decide)
end Go.Proofs.YtlbfnbldeefgmaaGreatDoor
end
section
namespace Go.Proofs.YtlbfnbldeefgmaaGreatDoor
open Go Go.Dm Go.Proofs Go.Proofs.Tryz
section
abbrev evc(k:Int)(n t m:List UInt8)(c:Cl)(q:Int)(b:List UInt8):List CV:=[.p (.i .i64 k),.p (.s n),.p (.s t),.p (.s m),.p (.i .i64 c.k),.p (.s c.p),.p (.s c.to'),.p (.i .i64 c.m),.p (.f c.t),.p (.i .i64 c.at'),.p (.i .i64 c.n),.p (.sl 1 (bJ c.d)),.p (.i .i64 q),.p (.sl 1 (bJ b))]
abbrev evv(e:Ev):List CV:=evc e.k e.n e.t e.m e.c e.q e.b
abbrev rwv(w:Rw):List CV:=[.p (.i .i64 w.e),.p (.i .i64 w.a.e),.p (.i .i64 w.a.n.k),.p (.i .i64 w.a.n.m),.p (.f w.a.n.t),.p (.sl 1 (bJ w.a.n.d)),.p (.sl 1 (bJ w.a.d)),.p (.sl 1 (Go.Dm.encS w.a.l)),.p (.sl 10 (mM w.c)),.p (.sl 2 (fO w.f))]
abbrev rwe(e:Int)(c f:PV):List CV:=[.p (.i .i64 e),.p (.i .i64 0),.p (.i .i64 0),.p (.i .i64 0),.p (.f 0),.p .nil,.p .nil,.p .nil,.p c,.p f]
abbrev rwx(e:Int)(c:List Ch)(f:List Cf):Rw:=⟨e,⟨0,⟨0,0,0,[]⟩,[],[]⟩,c,f⟩
section
variable {r r':Rm}{d:Dr}{n t m:List UInt8}{c:Cl}{q e:Int}{b:List UInt8}
theorem zFw{a:An}(h:Sim r d)(hc:OkC c)(he:KU r n c=(r',a)):
  aA prog 35 [.c (.ptr 0 0),.agg (evc 1 n t m c q b)] (aS r) λx h'=>x=.agg (rwv ⟨a.e,a,[],[]⟩)/\h'=dI r':=by
 obtain⟨ck,cp,cq,cm,ct,ca,cn,cd⟩:=c;have h1:=zQa h hc.t hc.p hc.d hc.q hc.a he;obtain⟨ae,⟨ak,am,at_,ad⟩,ab,al⟩:=a;clear hc he;refine aA.perm [0,7,8,9,1,2,3] (d1:=.agg (rwv ⟨ae,⟨ae,⟨ak,am,at_,ad⟩,ab,al⟩,[],[]⟩)) (h1:=aS r'++[.box (evc 1 n t m ⟨ck,cp,cq,cm,ct,ca,cn,cd⟩ q b),.box ([.p (.i .i64 ae),.p (.i .i64 ae),.p (.i .i64 ak),.p (.i .i64 am),.p (.f at_),.p (.sl 1 (bJ ad)),.p (.sl 1 (bJ ab)),.p (.sl 1 (Go.Dm.encS al)),.p .nil,.p .nil]),.box ([.p (.i .i64 ae),.p (.i .i64 ae),.p (.i .i64 ak),.p (.i .i64 am),.p (.f at_),.p (.sl 1 (bJ ad)),.p (.sl 1 (bJ ab)),.p (.sl 1 (Go.Dm.encS al)),.p .nil,.p .nil])]) (aI ?_) rfl rfl (by unfold dI aS;exact hpK);clear h;refine nJ aD aL func35 rfl rfl λX0 hX=>?_;simp only[f35,go_sem]
 repeat' (first|exact⟨⟩|refine sp ?_|refine uS [0,1,2,3] (h1) ?_)
 all_goals (repeat' (first|exact .inr ⟨_,rfl⟩|refine And.intro ?_ ?_))
theorem zFx(h:Sim r d)(ht:t.length<=1000000000)(he:gK r n t=(r',e)):
  aA prog 35 [.c (.ptr 0 0),.agg (evc 2 n t m c q b)] (aS r) λx h'=>x=.agg (rwv (rwx e [] []))/\h'=dI r':=by
 have h1:=YH h ht he;clear he;refine aA.perm [0,1,2,3,7,8,9] (d1:=.agg (rwv (rwx e [] []))) (h1:=[.box [.own 7 0 r'.N.length,.own 8 0 r'.L.length,.mp 9,.p (.i .i64 r'.x)],.dead,.dead,.dead,.box (evc 2 n t m c q b),.box (rwe e .nil .nil),.box (rwe e .nil .nil),.arr 2 (aV r'.N) false,.arr 4 (cM r'.L) false,.mp (jI r'.E)]) (aI ?_) rfl rfl (by unfold dI;exact hpK);clear h;refine nJ aD aL func35 rfl rfl λX0 hX=>?_;simp only[f35,go_sem]
 repeat' (first|exact⟨⟩|refine sp ?_|refine uS [0,1,2,3] (h1) ?_)
 all_goals (repeat' (first|exact .inr ⟨_,rfl⟩|refine And.intro ?_ ?_))
theorem zFy(h:Sim r d)(ht:t.length<=1000000000)(he:vL r n t=(r',e)):
  aA prog 35 [.c (.ptr 0 0),.agg (evc 3 n t m c q b)] (aS r) λx h'=>x=.agg (rwv (rwx e [] []))/\h'=dI r':=by
 have h1:=zNO h ht he;clear he;refine aA.perm [0,1,2,3,7,8,9] (d1:=.agg (rwv (rwx e [] []))) (h1:=[.box [.own 7 0 r'.N.length,.own 8 0 r'.L.length,.mp 9,.p (.i .i64 r'.x)],.dead,.dead,.dead,.box (evc 3 n t m c q b),.box (rwe e .nil .nil),.box (rwe e .nil .nil),.arr 2 (aV r'.N) false,.arr 4 (cM r'.L) false,.mp (jI r'.E)]) (aI ?_) rfl rfl (by unfold dI;exact hpK);clear h;refine nJ aD aL func35 rfl rfl λX0 hX=>?_;simp only[f35,go_sem]
 repeat' (first|exact⟨⟩|refine sp ?_|refine uS [0,1,2,3] (h1) ?_)
 all_goals (repeat' (first|exact .inr ⟨_,rfl⟩|refine And.intro ?_ ?_))
theorem zFz{l:List Ch}(h:Sim r' d)(hr:r'=r)(he:hZ r n t=(l,e)):
  aA prog 35 [.c (.ptr 0 0),.agg (evc 4 n t m c q b)] (aS r) λx h'=>x=.agg (rwv (rwx e l []))/\h'=dI r':=by
 subst hr;have h1:=zCW h he;clear he;refine aA.perm [0,7,8,9,1,2,3] (d1:=.agg (rwv (rwx e l []))) (h1:=aS r'++[.box (evc 4 n t m c q b),.box (rwe e (.sl 10 (mM l)) .nil),.box (rwe e (.sl 10 (mM l)) .nil)]) (aI ?_) rfl rfl (by unfold dI aS;exact hpK);clear h;refine nJ aD aL func35 rfl rfl λX0 hX=>?_;simp only[f35,go_sem]
 repeat' (first|exact⟨⟩|refine sp ?_|refine uS [0,1,2,3] (h1) ?_)
 all_goals (repeat' (first|exact .inr ⟨_,rfl⟩|refine And.intro ?_ ?_))
theorem zFA{l:List Ch}(h:Sim r d)(hl:l.length<=100000)(hp:∀x∈l,x.p.length<=1000000000/\x.o.t<18446744073709551616/\x.n.t<18446744073709551616)(hd:∀x∈l,x.n.d.length<=140737488355328)(hd1:hZ r t m=(l,0))(he:fY r n l=(r',e)):
  aA prog 35 [.c (.ptr 0 0),.agg (evc 5 n t m c q b)] (aS r) λx h'=>x=.agg (rwv (rwx e [] []))/\h'=dI r':=by
 have h1:=zCW h hd1;have h2:=zKW h hl hp hd he;clear he hd1 hl hp hd;refine aA.perm [0,7,8,9,1,2,3] (d1:=.agg (rwv (rwx e [] []))) (h1:=aS r'++[.box (evc 5 n t m c q b),.box (rwe e .nil .nil),.box (rwe e .nil .nil)]) (aI ?_) rfl rfl (by unfold dI aS;exact hpK);clear h;refine nJ aD aL func35 rfl rfl λX0 hX=>?_;simp only[f35,go_sem]
 repeat' (first|exact⟨⟩|refine sp ?_|refine uS [0,1,2,3] (h1) ?_|refine uS [0,1,2,3] (h2) ?_)
 all_goals (repeat' (first|exact .inr ⟨_,rfl⟩|refine And.intro ?_ ?_))
theorem zBm{l:List Ch}(h:Sim r' d)(hr:r'=r)(h0:(e==0)=false)(hd1:hZ r t m=(l,e)):
  aA prog 35 [.c (.ptr 0 0),.agg (evc 5 n t m c q b)] (aS r) λx h'=>x=.agg (rwv (rwx e [] []))/\h'=dI r':=by
 subst hr;have h1:=zCW h hd1;clear hd1;refine aA.perm [0,7,8,9,1,2,3] (d1:=.agg (rwv (rwx e [] []))) (h1:=aS r'++[.box (evc 5 n t m c q b),.box (rwe e .nil .nil),.box (rwe e .nil .nil)]) (aI ?_) rfl rfl (by unfold dI aS;exact hpK);clear h;refine nJ aD aL func35 rfl rfl λX0 hX=>?_;simp only[f35,go_sem]
 repeat' (first|exact⟨⟩|refine sp ?_|refine uS [0,1,2,3] (h1) ?_)
 all_goals (repeat' (first|exact .inr ⟨_,rfl⟩|refine And.intro ?_ ?_))
theorem zFB{F:List Cf}(h:Sim r d)(hm:m.length<=1000000000)(he:gM r n t m=(r',F,e)):
  aA prog 35 [.c (.ptr 0 0),.agg (evc 6 n t m c q b)] (aS r) λx h'=>x=.agg (rwv (rwx e [] F))/\h'=dI r':=by
 have h1:=zL2 h hm he;clear he;refine aA.perm [0,1,2,3,7,8,9] (d1:=.agg (rwv (rwx e [] F))) (h1:=[.box [.own 7 0 r'.N.length,.own 8 0 r'.L.length,.mp 9,.p (.i .i64 r'.x)],.dead,.dead,.dead,.box (evc 6 n t m c q b),.box (rwe e .nil (.sl 2 (fO F))),.box (rwe e .nil (.sl 2 (fO F))),.arr 2 (aV r'.N) false,.arr 4 (cM r'.L) false,.mp (jI r'.E)]) (aI ?_) rfl rfl (by unfold dI;exact hpK);clear h;refine nJ aD aL func35 rfl rfl λX0 hX=>?_;simp only[f35,go_sem]
 repeat' (first|exact⟨⟩|refine sp ?_|refine uS [0,1,2,3] (h1) ?_)
 all_goals (repeat' (first|exact .inr ⟨_,rfl⟩|refine And.intro ?_ ?_))
theorem zFC{F:List Cf}(h:Sim r d)(he:eP r n t=(r',F,e)):
  aA prog 35 [.c (.ptr 0 0),.agg (evc 7 n t m c q b)] (aS r) λx h'=>x=.agg (rwv (rwx e [] F))/\h'=dI r':=by
 have h1:=zJj h he;clear he;refine aA.perm [0,1,2,3,7,8,9] (d1:=.agg (rwv (rwx e [] F))) (h1:=[.box [.own 7 0 r'.N.length,.own 8 0 r'.L.length,.mp 9,.p (.i .i64 r'.x)],.dead,.dead,.dead,.box (evc 7 n t m c q b),.box (rwe e .nil (.sl 2 (fO F))),.box (rwe e .nil (.sl 2 (fO F))),.arr 2 (aV r'.N) false,.arr 4 (cM r'.L) false,.mp (jI r'.E)]) (aI ?_) rfl rfl (by unfold dI;exact hpK);clear h;refine nJ aD aL func35 rfl rfl λX0 hX=>?_;simp only[f35,go_sem]
 repeat' (first|exact⟨⟩|refine sp ?_|refine uS [0,1,2,3] (h1) ?_)
 all_goals (repeat' (first|exact .inr ⟨_,rfl⟩|refine And.intro ?_ ?_))
theorem zFD(h:Sim r d)(he:vE r n=(r',e)):
  aA prog 35 [.c (.ptr 0 0),.agg (evc 8 n t m c q b)] (aS r) λx h'=>x=.agg (rwv (rwx e [] []))/\h'=dI r':=by
 have h1:=zNF h he;clear he;refine aA.perm [0,1,2,3,7,8,9] (d1:=.agg (rwv (rwx e [] []))) (h1:=[.box [.own 7 0 r'.N.length,.own 8 0 r'.L.length,.mp 9,.p (.i .i64 r'.x)],.dead,.dead,.dead,.box (evc 8 n t m c q b),.box (rwe e .nil .nil),.box (rwe e .nil .nil),.arr 2 (aV r'.N) false,.arr 4 (cM r'.L) false,.mp (jI r'.E)]) (aI ?_) rfl rfl (by unfold dI;exact hpK);clear h;refine nJ aD aL func35 rfl rfl λX0 hX=>?_;simp only[f35,go_sem]
 repeat' (first|exact⟨⟩|refine sp ?_|refine uS [0,1,2,3] (h1) ?_)
 all_goals (repeat' (first|exact .inr ⟨_,rfl⟩|refine And.intro ?_ ?_))
theorem zFv{k:Int}(h:Sim r' d)(hr:r'=r)(k1:(k==1)=false)(k2:(k==2)=false)(k3:(k==3)=false)(k4:(k==4)=false)(k5:(k==5)=false)(k6:(k==6)=false)(k7:(k==7)=false)(k8:(k==8)=false):
  aA prog 35 [.c (.ptr 0 0),.agg (evc k n t m c q b)] (aS r) λx h'=>x=.agg (rwv (rwx 0 [] []))/\h'=dI r':=by
 subst hr;refine aA.perm [0,7,8,9,1,2,3] (d1:=.agg (rwv (rwx 0 [] []))) (h1:=aS r'++[.box (evc k n t m c q b),.box (rwe 0 .nil .nil),.box (rwe 0 .nil .nil)]) (aI ?_) rfl rfl (by unfold dI aS;exact hpK);clear h;refine nJ aD aL func35 rfl rfl λX0 hX=>?_;simp only[f35,go_sem]
 repeat' (first|exact⟨⟩|refine sp ?_)
 all_goals (repeat' (first|exact .inr ⟨_,rfl⟩|refine And.intro ?_ ?_))
end
theorem zHg{r:Rm}{d:Dr}(h:Sim r d)(a b:List UInt8):(hZ r a b).1.length<=100000/\(∀x∈(hZ r a b).1,x.p.length<=1000000000/\x.o.t<18446744073709551616/\x.n.t<18446744073709551616)/\∀x∈(hZ r a b).1,x.n.d.length<=140737488355328:=by
 have h1:=qR h a;have h2:=qR h b;unfold hZ;split
 .exact⟨by simp,by simp,by simp⟩
 .split
  .exact⟨by simp,by simp,by simp⟩
  .exact zPh h1 h2
theorem zJc{r:Rm}{d:Dr}{e:Ev}(h:Sim r d)(he:OkEv e):aA prog 35 [.c (.ptr 0 0),.agg (evv e)] (aS r) λx h'=>x=.agg (rwv (kR r e).2)/\h'=dI (kR r e).1:=by
 obtain⟨k,n,t,m,c,q,b⟩:=e;have hc:=he.c;have hn:=he.n;have ht:=he.t;have hm:=he.m;simp only at hc hn ht hm;by_cases k1:k=1
 .subst k1;exact zFw h hc rfl
 by_cases k2:k=2
 .subst k2;exact zFx h ht rfl
 by_cases k3:k=3
 .subst k3;exact zFy h ht rfl
 by_cases k4:k=4
 .subst k4;exact zFz h rfl rfl
 by_cases k5:k=5
 .subst k5;obtain⟨g1,g2,g3⟩:=zHg h t m;by_cases h0:(hZ r t m).2=0
  .have:=zFA (q:=q) (b:=b) (c:=c) (n:=n) (e:=(fY r n (hZ r t m).1).2) h g1 g2 g3 (Prod.ext rfl h0) rfl;have e2:kR r ⟨5,n,t,m,c,q,b⟩=((fY r n (hZ r t m).1).1,rwx (fY r n (hZ r t m).1).2 [] []):=by
    show (if (hZ r t m).2==0 then _ else _)=_
    rw[h0];rfl
   rw[e2];exact this
  .have hb:((hZ r t m).2==0)=false:=by simpa using h0
   have:=zBm (q:=q) (b:=b) (c:=c) (n:=n) (t:=t) (m:=m) h rfl hb rfl;have e2:kR r ⟨5,n,t,m,c,q,b⟩=(r,rwx (hZ r t m).2 [] []):=by
    show (if (hZ r t m).2==0 then _ else _)=_
    rw[hb];rfl
   rw[e2];exact this
 by_cases k6:k=6
 .subst k6;exact zFB h hm rfl
 by_cases k7:k=7
 .subst k7;exact zFC h rfl
 by_cases k8:k=8
 .subst k8;exact zFD h rfl
 have b1:(k==1)=false:=by simpa using k1
 have b2:(k==2)=false:=by simpa using k2
 have b3:(k==3)=false:=by simpa using k3
 have b4:(k==4)=false:=by simpa using k4
 have b5:(k==5)=false:=by simpa using k5
 have b6:(k==6)=false:=by simpa using k6
 have b7:(k==7)=false:=by simpa using k7
 have b8:(k==8)=false:=by simpa using k8
 have:=zFv (n:=n) (t:=t) (m:=m) (q:=q) (b:=b) (c:=c) h rfl b1 b2 b3 b4 b5 b6 b7 b8;have e2:kR r ⟨k,n,t,m,c,q,b⟩=(r,rwx 0 [] []):=by
  unfold kR;simp only[b1,b2,b3,b4,b5,b6,b7,b8,Bool.false_eq_true,if_false];rfl
 rw[e2];exact this
end
theorem sv_s(l:List UInt8):(SV.s l).pv=.s l:=rfl
theorem zMC(l:List (List UInt8)){n:Nat}(h:n<l.length):∃s∈l,(l.map SV.s).getD n (.i 0)=.s s:=by
 rw[List.getD_eq_getElem?_getD,List.getElem?_map,List.getElem?_eq_getElem h];exact⟨_,List.getElem_mem h,rfl⟩
theorem JV(n:Int):∃s:List UInt8,s.length<=100/\aA prog 72 [.c (.p (.i .i64 n))] [] λr h=>r=.c (.p (.s s))/\h=[]:=by
 have hpk:=lK (n:=n) (m:=7) (by decide) (by decide);have b1:=Int.emod_nonneg n (show (7:Int)≠0 by decide)
 have b2:=Int.emod_lt_of_pos n (show (0:Int)<7 by decide)
 obtain⟨s,hm,hs⟩:=zMC ZI (n:=(n % 7).toNat) (by show _<7;omega);have hl:∀s∈ZI,s.length<=100:=by decide
 have hs:(said 1).getD (n % 7).toNat (.i 0)=.s s:=hs;have hq:n % 7<((said 1).length:Int):=b2;cases h53:(n.tmod 53==52)
 .refine⟨s,hl s hm,?_⟩;generalize n % 7=q at *;clear hm hl;refine eT func72 λX0 hX=>?_;simp only[f72,go_sem]
  repeat' (first|simp only[*,go_sem,Nat.reduceLT,Nat.reduceEqDiff,↓reduceIte,Int.reduceEq,sv_s]|refine uF (hpk) ?_)
 .refine⟨[110,111,47,110,97,109,101],by decide,?_⟩
  refine eT func72 λX0 hX=>?_;simp only[f72,go_sem]
  repeat' (first|exact⟨⟩|refine sp ?_)
abbrev rwcv(k a b c n:Int)(x:RC)(m:List UInt8):List CV:=[.p (.i .i64 k),.p (.i .i64 a),.p (.i .i64 b),.p (.i .i64 c),.p (.i .i64 n),.p (.i .i64 x.k),.p (.i .i64 x.p),.p (.i .i64 x.to'),.p (.i .i64 x.m),.p (.i .i64 x.t),.p (.i .i64 x.at'),.p (.i .i64 x.n),.p (.i .i64 x.how),.p (.f x.x),.p (.sl 1 (bJ x.d)),.p (.s x.s),.p (.sl 1 (bJ m))]
theorem zIO{x:RW}(hx:zM5 x):∃e:Ev,OkEv e/\aA prog 19 [.agg (rwcv x.k x.a x.b x.c x.n x.r x.m),.c (.p (.b false))] [] λr h=>r=.agg (evv e)/\h=[]:=by
 obtain⟨k,a,b,c,n,x,m⟩:=x;obtain⟨⟨hd,hs,hxx⟩,hm⟩:=hx;simp only at hd hs hxx hm ⊢;obtain⟨ck,hcall⟩:=zNk (x:=x) hs hd;have hok:=zG7 (k:=ck) (x:=x) hs hxx;have hck0:OkC ⟨0,[],[],0,0,0,0,[]⟩:=⟨by simp,by simp,by decide,by simp,by decide⟩
 obtain⟨sa,la,ha⟩:=JV a;obtain⟨sb,lb,hb⟩:=JV b;obtain⟨sc,lc,hc⟩:=JV c;have hpk:=lK (n:=k) (m:=25) (by decide) (by decide);have b1:=Int.emod_nonneg k (show (25:Int)≠0 by decide)
 have b2:=Int.emod_lt_of_pos k (show (0:Int)<25 by decide)
 have hml:(jK).length<=100:=by decide
 have h0l:([]:List UInt8).length<=100:=by decide
 have up:∀{s:List UInt8},s.length<=100->s.length<=1000000000:=λh=>Nat.le_trans h (by decide);generalize HB ck x=cl at hcall hok;obtain⟨c1,c2,c3,c4,c5,c6,c7,c8⟩:=cl;generalize k % 25=q at hpk b1 b2;have ok:∀{k:Int} {n t m:List UInt8} {c:Cl} {q:Int} {b:List UInt8},OkC c->n.length<=100->t.length<=100->m.length<=100->OkEv ⟨k,n,t,m,c,q,b⟩:=λh1 h2 h3 h4=>⟨h1,up h2,up h3,up h4⟩;by_cases q1:q<12
 .have d1:decide (q<12)=true:=decide_eq_true q1;cases hr:decide (a.tmod 3 > 0)
  .refine⟨⟨1,sa,[],[],⟨c1,c2,c3,c4,c5,c6,c7,c8⟩,0,[]⟩,ok hok la h0l h0l,aI ?_⟩;clear hok hck0 ok up;refine eT func19 λX0 hX=>?_;simp only[f19,go_sem]
   repeat' (first|exact⟨⟩|refine sp ?_|refine uF (ha) ?_|refine uF (hpk) ?_|refine uN (hcall) ?_)
   all_goals (repeat' (exact .inr ⟨_,rfl⟩))
  .refine⟨⟨1,jK,[],[],⟨c1,c2,c3,c4,c5,c6,c7,c8⟩,0,[]⟩,ok hok hml h0l h0l,aI ?_⟩;clear hok hck0 ok up;refine eT func19 λX0 hX=>?_;simp only[f19,go_sem]
   repeat' (first|exact⟨⟩|refine sp ?_|refine uF (ha) ?_|refine uF (hpk) ?_|refine uN (hcall) ?_)
   all_goals (repeat' (first|exact rfl|exact .inr ⟨_,rfl⟩|refine And.intro ?_ ?_))
 have d1:decide (q<12)=false:=decide_eq_false q1;by_cases q2:q<14
 .have d2:decide (q<14)=true:=decide_eq_true q2;cases hr:(a.tmod 2==0)
  .refine⟨⟨2,sa,sb,[],⟨0,[],[],0,0,0,0,[]⟩,0,[]⟩,ok hck0 la lb h0l,aI ?_⟩;clear hok hck0 ok up;refine eT func19 λX0 hX=>?_;simp only[f19,go_sem]
   repeat' (first|exact⟨⟩|refine sp ?_|refine uF (ha) ?_|refine uF (hb) ?_|refine uF (hpk) ?_)
   all_goals (repeat' (first|exact .inr ⟨_,rfl⟩|refine And.intro ?_ ?_))
  .refine⟨⟨2,jK,sb,[],⟨0,[],[],0,0,0,0,[]⟩,0,[]⟩,ok hck0 hml lb h0l,aI ?_⟩;clear hok hck0 ok up;refine eT func19 λX0 hX=>?_;simp only[f19,go_sem]
   repeat' (first|exact⟨⟩|refine sp ?_|refine uF (ha) ?_|refine uF (hb) ?_|refine uF (hpk) ?_)
   all_goals (repeat' (first|exact rfl|exact .inr ⟨_,rfl⟩|refine And.intro ?_ ?_))
 have d2:decide (q<14)=false:=decide_eq_false q2;by_cases q3:q<16
 .have d3:decide (q<16)=true:=decide_eq_true q3;refine⟨⟨3,sa,sb,[],⟨0,[],[],0,0,0,0,[]⟩,0,[]⟩,ok hck0 la lb h0l,aI ?_⟩;clear hok hck0 ok up;refine eT func19 λX0 hX=>?_;simp only[f19,go_sem]
  repeat' (first|exact⟨⟩|refine sp ?_|refine uF (ha) ?_|refine uF (hb) ?_|refine uF (hpk) ?_)
  all_goals (repeat' (first|exact .inr ⟨_,rfl⟩|refine And.intro ?_ ?_))
 have d3:decide (q<16)=false:=decide_eq_false q3;cases d4:(q==16);rotate_left 1
 .refine⟨⟨4,sa,sb,[],⟨0,[],[],0,0,0,0,[]⟩,0,[]⟩,ok hck0 la lb h0l,aI ?_⟩;clear hok hck0 ok up;refine eT func19 λX0 hX=>?_;simp only[f19,go_sem]
  repeat' (first|exact⟨⟩|refine sp ?_|refine uF (ha) ?_|refine uF (hb) ?_|refine uF (hpk) ?_)
  all_goals (repeat' (first|exact .inr ⟨_,rfl⟩|refine And.intro ?_ ?_))
 cases d5:(q==17);rotate_left 1
 .refine⟨⟨5,sa,sb,sc,⟨0,[],[],0,0,0,0,[]⟩,0,[]⟩,ok hck0 la lb lc,aI ?_⟩;clear hok hck0 ok up;refine eT func19 λX0 hX=>?_;simp only[f19,go_sem]
  repeat' (first|exact⟨⟩|refine sp ?_|refine uF (ha) ?_|refine uF (hb) ?_|refine uF (hc) ?_|refine uF (hpk) ?_)
  all_goals (repeat' (first|exact .inr ⟨_,rfl⟩|refine And.intro ?_ ?_))
 by_cases q6:q<20
 .have d6:decide (q<20)=true:=decide_eq_true q6;refine⟨⟨6,sa,sb,sc,⟨0,[],[],0,0,0,0,[]⟩,0,[]⟩,ok hck0 la lb lc,aI ?_⟩;clear hok hck0 ok up;refine eT func19 λX0 hX=>?_;simp only[f19,go_sem]
  repeat' (first|exact⟨⟩|refine sp ?_|refine uF (ha) ?_|refine uF (hb) ?_|refine uF (hc) ?_|refine uF (hpk) ?_)
  all_goals (repeat' (first|exact .inr ⟨_,rfl⟩|refine And.intro ?_ ?_))
 have d6:decide (q<20)=false:=decide_eq_false q6;cases d7:(q==20);rotate_left 1
 .refine⟨⟨7,sa,sb,[],⟨0,[],[],0,0,0,0,[]⟩,0,[]⟩,ok hck0 la lb h0l,aI ?_⟩;clear hok hck0 ok up;refine eT func19 λX0 hX=>?_;simp only[f19,go_sem]
  repeat' (first|exact⟨⟩|refine sp ?_|refine uF (ha) ?_|refine uF (hb) ?_|refine uF (hpk) ?_)
  all_goals (repeat' (first|exact .inr ⟨_,rfl⟩|refine And.intro ?_ ?_))
 cases d8:(q==21);rotate_left 1
 .cases hr:decide (b.tmod 3 > 0)
  .refine⟨⟨8,sa,[],[],⟨0,[],[],0,0,0,0,[]⟩,0,[]⟩,ok hck0 la h0l h0l,aI ?_⟩;clear hok hck0 ok up;refine eT func19 λX0 hX=>?_;simp only[f19,go_sem]
   repeat' (first|exact⟨⟩|refine sp ?_|refine uF (ha) ?_|refine uF (hpk) ?_)
   all_goals (repeat' (first|exact .inr ⟨_,rfl⟩|refine And.intro ?_ ?_))
  .refine⟨⟨9,sa,[],[],⟨0,[],[],0,0,0,0,[]⟩,0,[]⟩,ok hck0 la h0l h0l,aI ?_⟩;clear hok hck0 ok up;refine eT func19 λX0 hX=>?_;simp only[f19,go_sem]
   repeat' (first|exact⟨⟩|refine sp ?_|refine uF (ha) ?_|refine uF (hpk) ?_)
   all_goals (repeat' (first|exact .inr ⟨_,rfl⟩|refine And.intro ?_ ?_))
 cases d9:(q==22)
 .refine⟨⟨9,sa,[],[],⟨0,[],[],0,0,0,0,[]⟩,0,[]⟩,ok hck0 la h0l h0l,aI ?_⟩;clear hok hck0 ok up;refine eT func19 λX0 hX=>?_;simp only[f19,go_sem]
  repeat' (first|exact⟨⟩|refine sp ?_|refine uF (ha) ?_|refine uF (hpk) ?_)
  all_goals (repeat' (first|exact .inr ⟨_,rfl⟩|refine And.intro ?_ ?_))
 .refine⟨⟨9,sa,[],[],⟨0,[],[],0,0,0,0,[]⟩,0,[]⟩,ok hck0 la h0l h0l,aI ?_⟩;clear hok hck0 ok up;refine eT func19 λX0 hX=>?_;simp only[f19,go_sem]
  repeat' (first|exact⟨⟩|refine sp ?_|refine uF (ha) ?_|refine uF (hpk) ?_)
  all_goals (repeat' (first|exact .inr ⟨_,rfl⟩|refine And.intro ?_ ?_))
end Go.Proofs.YtlbfnbldeefgmaaGreatDoor
end
section
namespace Go.Dm
open Go
def QX(x y:En):Bool:=x.p==y.p && (x.k==y.k && (x.o==y.o && pF x.n y.n))
def mV:List En->List En->Bool
 | [],[]=>true
 | x::a,y::b=>QX x y && mV a b
 | _,_=>false
theorem WW{a b:List En}{k:Nat}{x y:En}(ha:a[k]?=some x)(hb:b[k]?=some y):mV (a.drop k) (b.drop k)=(QX x y && mV (a.drop (k+1)) (b.drop (k+1))):=by
 obtain⟨h1,rfl⟩:=List.getElem?_eq_some_iff.1 ha;obtain⟨h2,rfl⟩:=List.getElem?_eq_some_iff.1 hb;rw[List.drop_eq_getElem_cons h1,List.drop_eq_getElem_cons h2,mV]
theorem FV:∀{a b:List En},a.length≠b.length->mV a b=false
 | [],[],h=>absurd rfl h
 | [],_::_,_=>rfl
 | _::_,[],_=>rfl
 | x::a,y::b,h=>by
  rw[mV,FV (a:=a) (b:=b) λe=>h (by simp[e]),Bool.and_false]
theorem BV:∀{a:List En},(∀x∈a,x.n.wf)->mV a a=true
 | [],_=>rfl
 | x::a,h=>by
  rw[mV,BV λy hy=>h y (List.mem_cons_of_mem _ hy),QX,AX (h x List.mem_cons_self)];simp
end Go.Dm
end
section
namespace Go.Proofs.YtlbfnbldeefgmaaGreatDoor
open Go Go.Dm Go.Proofs Go.Proofs.Tryz
theorem zJq{p q:List UInt8}{k k' nk nk' nm nm':Int}{o o':Bool}{t t':Nat}{d d':List UInt8}:
  aA prog 120 [.agg [.p (.s p),.p (.i .i64 k),.p (.b o),.p (.i .i64 nk),.p (.i .i64 nm),.p (.f t),.p (.sl 1 (bJ d))],.agg [.p (.s q),.p (.i .i64 k'),.p (.b o'),.p (.i .i64 nk'),.p (.i .i64 nm'),.p (.f t'),.p (.sl 1 (bJ d'))]] []
   λr h=>r=.c (.p (.b (QX ⟨p,k,o,⟨nk,nm,t,d⟩⟩ ⟨q,k',o',⟨nk',nm',t',d'⟩⟩)))/\h=[]:=by
 refine eT func120 λX0 hX=>?_;simp only[f120,go_sem]
 repeat' (first|exact⟨⟩|refine sp ?_|refine uF (qI) ?_|refine bM (λ_=>?_) (λ_=>?_))
 all_goals ((simp_all[QX];done))
theorem zPn{a b:List En}(ha:a.length<=1000000)(hb:b.length<=1000000):
  aA prog 119 [.c (.p (.sl 7 (gD a))),.c (.p (.sl 7 (gD b))),.c (.clo 120 [])] [] λr h=>r=.c (.p (.b (mV a b)))/\h=[]:=by
 by_cases hl:b.length=a.length
 .have q1:((a.length:Int) != a.length)=false:=by simp
  refine eT func119 λX0 hX=>?_;simp only[f119,go_sem]
  repeat' (first|exact⟨⟩|refine sp ?_)
  refine aY aD aL (α:=Nat) (λk=>⟨32,[(1,.c (.p (.sl 7 (gD b)))),(2,.c (.clo 120 [])),(15,.c (.p (.sl 7 (gD a)))),(16,.c (.p (.i .i64 a.length))),(17,.c (.p (.i .i64 k)))],[]⟩)
   (λk=>k<=a.length/\mV (a.drop k) (b.drop k)=mV a b) (λk=>a.length-k) 0 ⟨Nat.zero_le _,rfl⟩ (.inl (aF (by rw[hX];rfl) rfl rfl wkS)) ?_
  rintro k ⟨hk,hs⟩;by_cases hlt:k<a.length
  .have hx:a[k]?=some a[k]:=List.getElem?_eq_getElem hlt;have hy:b[k]?=some (b[k]'(by omega)):=List.getElem?_eq_getElem (by omega);have hg:=rH hx;have hg2:=rH hy;have h1:decide ((k:Int)<(a.length:Int))=true:=decide_eq_true (by omega);have hd:=WW hx hy;generalize a[k]=x at hx hg hd;generalize (b[k]'(by omega))=y at hy hg2 hd;have w1:IntKind.i64.wrap ((k:Int)+1)=k+1:=wrap_i64 (by omega) (by omega);rw[hd] at hs;clear hd
   repeat' (first|exact⟨⟩|refine sp ?_|refine uF (zJq) ?_|refine aK (λ_=>?_) (λ_=>?_)|refine ai ?_)
   .rename_i hb;rw[Bool.not_eq_true'] at hb;rw[hb,Bool.false_and] at hs;rw[<- hs]
   .rename_i hb;rw[Bool.not_eq_false'] at hb;rw[hb,Bool.true_and] at hs;exact gZ (k+1) ⟨by omega,hs⟩ (by omega) (aF rfl rfl rfl wkS)
  .have h1:decide ((k:Int)<(a.length:Int))=false:=decide_eq_false (by omega);rw[List.drop_of_length_le (by omega),List.drop_of_length_le (by omega)] at hs;have hs2:mV a b=true:=hs.symm;clear hs
   repeat' (first|exact⟨⟩|refine sp ?_)
 .have q1:((a.length:Int) != b.length)=true:=by simpa[bne] using λh=>hl (by omega)
  rw[FV λh=>hl h.symm];refine eT func119 λX0 hX=>?_;simp only[f119,go_sem]
  repeat' (first|exact⟨⟩|refine sp ?_)
theorem VQ{a b:List En}(ha:a.length<=1000000)(hb:b.length<=1000000):aA prog 62 [.c (.p (.sl 7 (gD a))),.c (.p (.sl 7 (gD b)))] [] λr h=>r=.c (.p (.b (mV a b)))/\h=[]:=by
 refine eT func62 λX0 hX=>?_;simp only[f62,go_sem]
 repeat' (first|exact⟨⟩|refine sp ?_|refine uF (zPn ha hb) ?_)
end Go.Proofs.YtlbfnbldeefgmaaGreatDoor
end
