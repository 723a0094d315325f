/- Part 49 of the proof of roomAsks_card, set without needless blanks. No condition. -/
import Derived.Test.YtlbfnbldeefgmaaGreatDoorA47
set_option linter.all false
section
namespace Go.Proofs.YtlbfnbldeefgmaaGreatDoor
open Go Go.Dm Go.Proofs
set_option maxRecDepth 100000
set_option maxHeartbeats 16000000
theorem zIw {n how:Int} {s:List UInt8} (hs:s.length≤9223372036854775807):aA Tryz.prog 47 [.c (.p (.i .i64 n)),.c (.p (.i .i64 how)),.c (.p (.s s))] [] fun r h=>r=.c (.p (.s (NC n how s)))∧h=[]:=by
 have hp:=nU n;have hn:=gC n;have hn2:=gC (IntKind.i64.wrap (n.tdiv 6));have hpc:=zAY (n:=n);have hnc:=wL (n:=n);have hnc2:=wL (n:=IntKind.i64.wrap (n.tdiv 6));have hpk:=mE (n:=how) (m:=24) (by decide) (by decide);unfold NC;generalize kK n=P at hp hpc ⊢;generalize tP n=A at hn hnc ⊢;generalize tP (IntKind.i64.wrap (n.tdiv 6))=B at hn2 hnc2 ⊢;have e0:=Int.emod_nonneg how (show (24:Int)≠0 by decide)
 have e1:=Int.emod_lt_of_pos how (show (0:Int)<24 by decide)
 generalize how % 24=q at hpk e0 e1 ⊢;refine ent aB aK Tryz.func47 rfl rfl fun X0 hX=>?_;simp only [Tryz.f47,go_sem]
 repeat' (first|exact ⟨⟩|refine sp ?_|refine uF (hpc) ?_|refine uF (hnc) ?_|refine uF (hnc2) ?_|refine uF (hpk) ?_|with_reducible refine aO (fun _=>?_) (fun _=>?_)|((with_reducible refine And.intro ?_ ?_);omega))
 all_goals omega
theorem sv_i (n:Int):(SV.i n).pv=.i .i64 n:=rfl
theorem zKk (l:List Int) (n:Nat):∃ k,(l.map SV.i).getD n (.i 0)=.i k:=by
 rw [List.getD_eq_getElem?_getD,List.getElem?_map];cases l[n]? with
 | none=>exact ⟨0,rfl⟩
 | some k=>exact ⟨k,rfl⟩
abbrev rcv (x:RC):List CV:=[.p (.i .i64 x.k),.p (.i .i64 x.p),.p (.i .i64 x.to'),.p (.i .i64 x.m),.p (.i .i64 x.t),.p (.i .i64 x.at'),.p (.i .i64 x.n),.p (.i .i64 x.how),.p (.f x.x),.p (.sl 1 (bO x.d)),.p (.s x.s)]
abbrev clv (c:Cl):List CV:=clc c.k c.p c.to' c.m c.t c.at' c.n c.d
theorem ZP {m:Int}:∃ (m':Int) (t':Nat),aA Tryz.prog 50 [.agg [.p (.i .i64 2),.p (.i .i64 m),.p (.i .i64 0),.p (.f 0),.p .nil]] [] fun r h=>r=.agg (ndc 3 m' t' (FU m))∧h=[] :=
 ⟨m % 4096,cY (AA 0 0),by
  have h:aA Tryz.prog 50 [.agg (rnc 2 m 0 0 [])] [] fun r h=>r=.agg (ndc 3 (m % 4096) (cY (AA 0 0)) (FU m))∧h=[]:=by
   have e:(GF ⟨2,m,0,0,[]⟩).cv=ndc 3 (m % 4096) (cY (AA 0 0)) (FU m):=by simp [GF,zDK,Nd.cv]
   have:=zDM (k:=2) (m:=m) (t:=0) (x:=0) (d:=[]) (by simp);rw [e] at this;exact this
  refine aA.wkargs ?_ h;simp [zE8,wkD,zE7,wkC,wkP,lJ]⟩
theorem zK0 {x:RC} (hs:x.s.length≤9223372036854775807) (hd:x.d.length≤9223372036854775807):
  ∃ k:Int,aA Tryz.prog 11 [.agg (rcv x)] [] fun r h=>r=.agg (clv (EL k x))∧h=[]:=by
 obtain ⟨xk,xp,xq,xm,xt,xa,xn,xh,xx,xd,xs⟩:=x;simp only at hs hd;have hsd:=zIw (n:=xp) (how:=xh) hs;have hsq:=zIw (n:=xq) (how:=IntKind.i64.wrap (xh.tdiv 24)) hs;have hti:=zH8 (n:=xt) (x:=xx);have hf1:=zIK (b:=xd) (n:=60) (by decide) (by decide) hd;have hf2:=zIK (b:=xd) (n:=200) (by decide) (by decide) hd;have hpk:=mE (n:=xk) (m:=24) (by decide) (by decide);have hpm:=mE (n:=xm) (m:=4099) (by decide) (by decide);have hp4:=mE (n:=xa) (m:=40) (by decide) (by decide);have hp3:=mE (n:=xa) (m:=30) (by decide) (by decide);have hpn:=mE (n:=xn) (m:=40) (by decide) (by decide);obtain ⟨lm,lt,hnd⟩:=ZP (m:=xq);have b1:=Int.emod_nonneg xk (show (24:Int)≠0 by decide)
 have b2:=Int.emod_lt_of_pos xk (show (0:Int)<24 by decide)
 have b3:=Int.emod_nonneg xm (show (4099:Int)≠0 by decide)
 have b4:=Int.emod_lt_of_pos xm (show (0:Int)<4099 by decide)
 have b5:=Int.emod_nonneg xa (show (40:Int)≠0 by decide)
 have b6:=Int.emod_lt_of_pos xa (show (0:Int)<40 by decide)
 have b7:=Int.emod_nonneg xa (show (30:Int)≠0 by decide)
 have b8:=Int.emod_lt_of_pos xa (show (0:Int)<30 by decide)
 have b9:=Int.emod_nonneg xn (show (40:Int)≠0 by decide)
 have b10:=Int.emod_lt_of_pos xn (show (0:Int)<40 by decide)
 have hsl:((said 0).length:Int)=24:=rfl;have key:∀ (k:Int),(xh.tmod 41 == 40)=true∧k=xk∨(xh.tmod 41 == 40)=false∧(said 0).getD (xk % 24).toNat (.i 0)=.i k →
   aA Tryz.prog 11 [.agg (rcv ⟨xk,xp,xq,xm,xt,xa,xn,xh,xx,xd,xs⟩)] [] fun r h=>r=.agg (clv (EL k ⟨xk,xp,xq,xm,xt,xa,xn,xh,xx,xd,xs⟩))∧h=[]:=by
  intro k hk;refine bK ?_;unfold EL;simp only;generalize NC xp xh xs=P at hsd ⊢;generalize NC xq (IntKind.i64.wrap (xh.tdiv 24)) xs=Q at hsq ⊢;generalize AA xt xx=TT at hti ⊢;generalize FU xq=LL at hnd ⊢;generalize xk % 24=q at hpk hk b1 b2;generalize xm % 4099=pm at hpm b3 b4 ⊢;generalize xa % 40=p4 at hp4 b5 b6 ⊢;generalize xa % 30=p3 at hp3 b7 b8 ⊢;generalize xn % 40=pn at hpn b9 b10 ⊢;obtain ⟨j,rfl⟩:∃ j:Nat,p4=j:=⟨p4.toNat,by omega⟩
  have w1:IntKind.i64.wrap (pm-1)=pm-1:=wrap_i64 (by omega) (by omega);have w2:IntKind.i64.wrap (p3-1)=p3-1:=wrap_i64 (by omega) (by omega);have w3:IntKind.i64.wrap (pn-1)=pn-1:=wrap_i64 (by omega) (by omega);have w4:IntKind.i64.wrap (1980+(j:Int))=(1980+j:Nat):=by rw [wrap_i64 (by omega) (by omega)];omega
  have hq:q<((said 0).length:Int):=by rw [hsl];exact b2
  have hj:((1980+j:Nat):Int)≤9223372036854775807:=by omega
  have hj2:((1980+j:Nat):Int)≤140737488355328:=by omega
  have hj0:(0:Int)≤((1980+j:Nat):Int):=by omega
  have hrep:List.replicate (1980+j) [PV.i .u8 0]=bO (List.replicate (1980+j) 0):=by simp [bO]
  have hjt:((j:Int)).toNat=j:=Int.toNat_natCast j;clear hs hd hsl b3 b4 b5 b6 b7 b8 b9 b10;rcases hk with ⟨h41,rfl⟩|⟨h41,hk⟩
  ·rcases zIk k with rfl|rfl|rfl|rfl|rfl|rfl|rfl|rfl|rfl|⟨k1,k2,k3,k4,k7,k9,k10,k11,k14⟩
   all_goals
    refine ent aB aK Tryz.func11 rfl rfl fun X0 hX=>?_;simp only [Tryz.f11,go_sem]
    repeat' (first|exact ⟨⟩|refine sp ?_|((refine aN (id:=1) aB aK [13,14] [13,0,1,2,3,4,5,6,7,8,9,10,11,12,14] (by decide +kernel) ?_);(repeat' (first|(refine aT ?_)|((refine cV ?_ ?_ rfl rfl rfl ?_ ?_);(rotate_left 2);(focus ((repeat' (first|exact ⟨⟩|refine sp ?_));((refine And.intro ?_ ?_ <;> exact rfl))));(simp only [aG,bI]))|((refine cU ?_ rfl rfl rfl ?_ ?_);(rotate_left 1);(focus ((repeat' (first|exact bG|refine aZ ?_ ?_));(all_goals ((repeat' (first|exact ⟨⟩|refine sp ?_|refine uF (hpk) ?_|refine uN (hsd) ?_));(try (exact rfl))))));(simp only [aG])))))|refine uN (hsq) ?_|refine uF (hti) ?_|refine uN (hf1) ?_|refine uN (hf2) ?_|refine uF (hpm) ?_|refine uF (hp4) ?_|refine uF (hp3) ?_|refine uF (hpn) ?_|refine uN (hnd) ?_|with_reducible refine aO (fun _=>?_) (fun _=>?_)|((with_reducible refine And.intro ?_ ?_);omega))
   all_goals first|exact .inr ⟨_,rfl⟩|(rw [List.take_of_length_le (by simp)])
  ·rcases zIk k with rfl|rfl|rfl|rfl|rfl|rfl|rfl|rfl|rfl|⟨k1,k2,k3,k4,k7,k9,k10,k11,k14⟩
   all_goals
    refine ent aB aK Tryz.func11 rfl rfl fun X0 hX=>?_;simp only [Tryz.f11,go_sem]
    repeat' (first|exact ⟨⟩|refine sp ?_|((refine aN (id:=1) aB aK [13,14] [13,0,1,2,3,4,5,6,7,8,9,10,11,12,14] (by decide +kernel) ?_);(repeat' (first|(refine aT ?_)|((refine cV ?_ ?_ rfl rfl rfl ?_ ?_);(rotate_left 2);(focus ((repeat' (first|exact ⟨⟩|refine sp ?_));((refine And.intro ?_ ?_ <;> exact rfl))));(simp only [aG,bI]))|((refine cU ?_ rfl rfl rfl ?_ ?_);(rotate_left 1);(focus ((repeat' (first|exact bG|refine aZ ?_ ?_));(all_goals ((repeat' (first|simp only [*,go_sem,Nat.reduceLT,Nat.reduceLeDiff,Nat.reduceEqDiff,↓reduceIte,Nat.reduceAdd,sv_i]|refine uF (hpk) ?_|refine uN (hsd) ?_));(try (exact rfl))))));(simp only [aG])))))|refine uN (hsq) ?_|refine uF (hti) ?_|refine uN (hf1) ?_|refine uN (hf2) ?_|refine uF (hpm) ?_|refine uF (hp4) ?_|refine uF (hp3) ?_|refine uF (hpn) ?_|refine uN (hnd) ?_|with_reducible refine aO (fun _=>?_) (fun _=>?_)|((with_reducible refine And.intro ?_ ?_);omega))
   all_goals first|exact .inr ⟨_,rfl⟩|(rw [List.take_of_length_le (by simp)])
 cases h41:(xh.tmod 41 == 40)
 ·obtain ⟨k,hk⟩:=zKk zEp (xk % 24).toNat;exact ⟨_,key k (.inr ⟨h41,hk⟩)⟩
 ·exact ⟨_,key _ (.inl ⟨h41,rfl⟩)⟩
end Go.Proofs.YtlbfnbldeefgmaaGreatDoor
end
section
namespace Go.Dm
set_option maxRecDepth 100000
def uI (p:List UInt8):Nat→Nat→List It→List It
 | 0,_,u=>u
 | r+1,k,u =>
  if p.getD k 0 == 47 && !aV u (p.take k) then (if (aQ u (p.take k)).isSome then u else uI p r (k+1) (wS u (lV u (p.take k) ⟨2,493,0,[]⟩)))
  else uI p r (k+1) u
def zEL (u:List It) (p:List UInt8) (n:Nd):List It :=
 if (aQ u p).isSome && (((aQ u p).getD nd0).k == 2 && (n.k != 2)) then u else wS u (lV u p n)
def AE (t:List It) (x:RI):List It:=zEL (uI (kK x.p) (kK x.p).length 0 t) (kK x.p) (GF x.n)
def zEM (l:List RI):List It:=(l.take 30).foldl AE []
theorem wJ {p:List UInt8}:∀ (r k:Nat) {u:List It},OkT u→OkT (uI p r k u)
 | 0,_,_,h=>h
 | r+1,k,u,h=>by
  rw [uI];split
  ·split
   ·exact h
   ·exact wJ r (k+1) (TQ h (show (0:Nat)<18446744073709551616 by decide))
  ·exact wJ r (k+1) h
theorem zHK {t:List It} {x:RI} (h:OkT t) (hx:x.n.x<18446744073709551616):OkT (AE t x):=by
 unfold AE zEL;split
 ·exact wJ _ _ h
 ·exact TQ (wJ _ _ h) (WK hx)
theorem HH:∀ {l:List RI} {t:List It},OkT t→(∀ x∈l,x.n.x<18446744073709551616)→OkT (l.foldl AE t)
 | [],_,h,_=>h
 | a::r,t,h,hx=>HH (l:=r) (t:=AE t a) (zHK h (hx _ List.mem_cons_self)) fun y hy=>hx y (List.mem_cons_of_mem _ hy)
theorem zHL {l:List RI} (hx:∀ x∈l,x.n.x<18446744073709551616):OkT (zEM l) :=
 HH OkT.nil fun x hm=>hx x (List.take_subset _ _ hm)
theorem zAN {t:List It} {l:List RI} {i:Nat} {x:RI} (h:l[i]? = some x):(l.take (i+1)).foldl AE t=AE ((l.take i).foldl AE t) x:=by
 rw [List.take_add_one,h];simp
theorem NV {l:List RI} {i:Nat} (h:l.length≤i∨30≤i) (h2:i≤30):(l.take i).foldl AE []=zEM l:=by
 unfold zEM;rcases h with h|h
 ·rw [List.take_of_length_le h,List.take_of_length_le (Nat.le_trans h h2)]
 ·rw [show i=30 by omega]
theorem zAM {p:List UInt8} {k:Nat} {u:List It} {b:UInt8} (h:p[k]? = some b):uI p (p.length-k) k u =
  if b == 47 && !aV u (p.take k) then (if (aQ u (p.take k)).isSome then u else uI p (p.length-(k+1)) (k+1) (wS u (lV u (p.take k) ⟨2,493,0,[]⟩)))
  else uI p (p.length-(k+1)) (k+1) u:=by
 have hk:=(List.getElem?_eq_some_iff.1 h).1;rw [show p.length-k=(p.length-(k+1))+1 by omega,uI]
 have:p.getD k 0=b:=by simp [List.getD,h]
 rw [this]
end Go.Dm
end
section
namespace Go.Proofs.YtlbfnbldeefgmaaGreatDoor
open Go Go.Dm
set_option maxRecDepth 100000
set_option maxHeartbeats 4000000
theorem zKZ (b:UInt8):((b.toNat:Int) == 47)=(b == 47):=by
 rw [Bool.eq_iff_iff];simp only [beq_iff_eq];constructor
 ·intro h;have h2:b.toNat=47:=by omega
  exact UInt8.toNat_inj.1 h2
 ·rintro rfl;rfl
theorem zKv {l:List RI} (hl:l.length≤9223372036854775807) (hd:∀ x∈l,x.n.d.length≤9223372036854775807) (hdx:∀ x∈l,x.n.x<18446744073709551616):
  aA Tryz.prog 32 [.c (.p (.sl 6 (Go.Dm.encI l)))] [] fun r h=>r=.c (.p (.sl 5 (aU (zEM l))))∧h=[]:=by
 refine bK ?_;refine ent aB aK Tryz.func32 rfl rfl fun X0 hX=>?_;simp only [Tryz.f32,go_sem]
 repeat' (first|exact ⟨⟩|refine sp ?_)
 refine zKC 3 5 rfl ?_;refine aY aB aK (α:=Nat × List It) (fun x=>⟨105,[(0,.c (.p (.sl 6 (Go.Dm.encI l)))),(3,.c (.p (.sl 5 (aU x.2)))),(4,.c (.p (.i .i64 x.1)))],[]⟩)
  (fun x=>x.1≤l.length∧x.1≤30∧(l.take x.1).foldl AE []=x.2) (fun x=>l.length-x.1) (0,[]) ⟨Nat.zero_le _,Nat.zero_le _,rfl⟩ (.inl (aI (by rw [hX];rfl) rfl rfl (by simp [aH,aL,aD,aJ,aF,gA,]))) ?_
 rintro ⟨i,t⟩ ⟨hi,hi2,htq⟩;simp only at hi hi2 htq;have ht:OkT t:=htq▸HH OkT.nil fun x hm=>hdx x (List.take_subset _ _ hm);by_cases hlt:i<l.length
 ·by_cases hl2:i<30
  ·have hx:l[i]? = some l[i]:=List.getElem?_eq_getElem hlt;have hstep:=zAN (t:=[]) hx;rw [htq] at hstep;clear htq;have hg:=zJj hx;have h1:decide ((i:Int)<(l.length:Int))=true:=decide_eq_true (by omega);have h30:decide ((i:Int)<30)=true:=decide_eq_true (by omega);have w1:IntKind.i64.wrap ((i:Int)+1)=i+1:=wrap_i64 (by omega) (by omega);have hxd:=hd _ (List.mem_of_getElem? hx);have hxx:=hdx _ (List.mem_of_getElem? hx);generalize l[i]=x at hx hg hstep hxd hxx;have hpl:=nU x.p;rw [show AE t x=zEL (uI (kK x.p) (kK x.p).length 0 t) (kK x.p) (GF x.n) from rfl] at hstep
   obtain ⟨nn,hnq,⟨hnn,hnt⟩,hnc⟩:∃ nn:Nd,GF x.n=nn∧(nn.d.length≤60∧nn.t<18446744073709551616)∧aA Tryz.prog 50 [.agg (rnc x.n.k x.n.m x.n.t x.n.x x.n.d)] [] fun r h=>r=.agg (ndc nn.k nn.m nn.t nn.d)∧h=[] :=
    ⟨GF x.n,rfl,⟨zDL x.n,WK hxx⟩,zDM hxd⟩
   rw [hnq] at hstep;clear hnq;have hSP:=PLift.up hstep;clear hstep
   repeat' (first|exact ⟨⟩|refine sp ?_|refine uF (zAY) ?_|((with_reducible refine And.intro ?_ ?_);omega))
   have hstep:=hSP.down;clear hSP;generalize kK x.p=p at hpl hstep ⊢;obtain ⟨U,hUq⟩:∃ U,uI p p.length 0 t=U:=⟨_,rfl⟩;rw [hUq] at hstep;have hSP:=PLift.up hstep;clear hstep;refine aY aB aK (α:=Nat × List It) (fun x=>⟨105,[(0,.c (.p (.sl 6 (Go.Dm.encI l)))),(3,.c (.p (.sl 5 (aU x.2)))),(4,.c (.p (.i .i64 i))),(5,.c (.p (.s p))),(6,.c (.p (.i .i64 x.1)))],[]⟩)
    (fun x=>x.1≤p.length∧OkT x.2∧uI p (p.length-x.1) x.1 x.2=U) (fun x=>p.length-x.1) (0,t) ⟨Nat.zero_le _,ht,hUq⟩ (.inl (aI (by rw [hX];rfl) rfl rfl (by simp [aH,aL,aD,aJ,aF,]))) ?_
   clear ht hUq hi2;rintro ⟨k,u⟩ ⟨hk,hu,hU⟩;simp only at hk hu hU;have hul:=hu.len;have hup:∀ x∈u,x.p.length≤9223372036854775807:=fun x hx=>Nat.le_trans (hu.plen x hx) (by decide);by_cases hlk:k<p.length
   ·have hpx:p[k]? = some p[k]:=List.getElem?_eq_getElem hlk;have hs:=zAM (u:=u) hpx;rw [hU] at hs;clear hU;have hg2:=QT hpx;have h2:decide ((k:Int)<(p.length:Int))=true:=decide_eq_true (by omega);have w2:IntKind.i64.wrap ((k:Int)+1)=k+1:=wrap_i64 (by omega) (by omega);have htk:(p.take k).length≤11:=Nat.le_trans (List.length_take_le ..) (Nat.le_trans hk hpl);have h47:=zKZ p[k];generalize p[k]=b at hpx hg2 hs h47;cases c1:(b == 47)
    ·rw [c1] at hs h47;rw [if_neg (by simp)] at hs;have hQ:=PLift.up hs;clear hs c1
     repeat' (first|exact ⟨⟩|refine sp ?_|((with_reducible refine And.intro ?_ ?_);omega))
     exact fD (k+1,u) ⟨by omega,hu,hQ.down.symm⟩ (by simp only;omega) (aI rfl rfl rfl (by simp [aH,aL,aD,aJ,aF,]))
    ·rw [c1] at hs h47;cases c2:aV u (p.take k)
     ·rw [c2] at hs;rw [if_pos (by simp)] at hs;cases c3:(aQ u (p.take k)).isSome
      ·rw [c3,if_neg (by simp)] at hs;cases c4:((lV u (p.take k) ⟨2,493,0,[]⟩).2 == 0)
       ·rw [show wS u (lV u (p.take k) ⟨2,493,0,[]⟩)=u by unfold wS;rw [c4];rfl] at hs
        have hQ:=PLift.up hs;clear hs c1
        repeat' (first|exact ⟨⟩|refine sp ?_|refine uN (rI (t:=u) (by omega)) ?_|refine uN (xZ (t:=u) (by omega)) ?_|refine uN (zD5 (t:=u) (by omega) (by omega) hup) ?_|((with_reducible refine And.intro ?_ ?_);omega))
        exact fD (k+1,u) ⟨by omega,hu,hQ.down.symm⟩ (by simp only;omega) (aI rfl rfl rfl (by simp [aH,aL,aD,aJ,aF,]))
       ·rw [show wS u (lV u (p.take k) ⟨2,493,0,[]⟩)=(lV u (p.take k) ⟨2,493,0,[]⟩).1 by unfold wS;rw [c4];rfl] at hs
        have hQ:=PLift.up hs;have hpk:=hu.put (p:=p.take k) (n:=⟨2,493,0,[]⟩) (show (0:Nat)<18446744073709551616 by decide) (eq_of_beq c4)
        clear hs c1
        repeat' (first|exact ⟨⟩|refine sp ?_|refine uN (rI (t:=u) (by omega)) ?_|refine uN (xZ (t:=u) (by omega)) ?_|refine uN (zD5 (t:=u) (by omega) (by omega) hup) ?_|((with_reducible refine And.intro ?_ ?_);omega))
        exact fD (k+1,_) ⟨by omega,hpk,hQ.down.symm⟩ (by simp only;omega) (aI rfl rfl rfl (by simp [aH,aL,aD,aJ,aF,]))
      ·rw [c3,if_pos rfl] at hs
       replace hs:=hs.symm
       subst hs;clear c1
       repeat' (first|exact ⟨⟩|refine sp ?_|refine uN (rI (t:=u) (by omega)) ?_|refine uN (xZ (t:=u) (by omega)) ?_|refine uN (hnc) ?_|refine uN (zD4 (t:=u) (by omega) (by omega) hup (by omega)) ?_|with_reducible refine aO (fun _=>?_) (fun _=>?_)|with_reducible refine bF (fun _=>?_) (fun _=>?_)|((with_reducible refine And.intro ?_ ?_);omega))
       all_goals (have hstep:=hSP.down;simp only [zEL,wS,Bool.and_true,Bool.and_false,Bool.false_and,Bool.false_eq_true,if_true,if_false, *] at hstep)
       all_goals (refine fD (i+1,_) ⟨?_,?_,hstep⟩ ?_ (aI rfl rfl rfl ?_) <;> first|omega|(simp only;omega;done)|(simp [aH,aL,aD,aJ,aF,];done)|(simp [aH,aL,aD,aJ,aF,vB,tY,vA,gA,lL,vZ];rfl))
     ·rw [c2] at hs;rw [if_neg (by simp)] at hs;have hQ:=PLift.up hs;clear hs c1
      repeat' (first|exact ⟨⟩|refine sp ?_|refine uN (rI (t:=u) (by omega)) ?_|((with_reducible refine And.intro ?_ ?_);omega))
      exact fD (k+1,u) ⟨by omega,hu,hQ.down.symm⟩ (by simp only;omega) (aI rfl rfl rfl (by simp [aH,aL,aD,aJ,aF,]))
   ·have h2:decide ((k:Int)<(p.length:Int))=false:=decide_eq_false (by omega);rw [show p.length-k=0 by omega,uI] at hU
    subst hU
    repeat' (first|exact ⟨⟩|refine sp ?_|refine uN (xZ (t:=u) (by omega)) ?_|refine uN (hnc) ?_|refine uN (zD4 (t:=u) (by omega) (by omega) hup (by omega)) ?_|with_reducible refine aO (fun _=>?_) (fun _=>?_)|with_reducible refine bF (fun _=>?_) (fun _=>?_)|((with_reducible refine And.intro ?_ ?_);omega))
    all_goals (have hstep:=hSP.down;simp only [zEL,wS,Bool.and_true,Bool.and_false,Bool.false_and,Bool.false_eq_true,if_true,if_false, *] at hstep)
    all_goals (refine fD (i+1,_) ⟨?_,?_,hstep⟩ ?_ (aI rfl rfl rfl ?_) <;> first|omega|(simp only;omega;done)|(simp [aH,aL,aD,aJ,aF,];done)|(simp [aH,aL,aD,aJ,aF,vB,tY,vA,gA,lL,vZ];rfl))
  ·have h1:decide ((i:Int)<30)=false:=decide_eq_false (by omega);have h0:decide ((i:Int)<(l.length:Int))=true:=decide_eq_true (by omega);rw [NV (.inr (by omega)) hi2] at htq;subst htq
   repeat' (first|exact ⟨⟩|refine sp ?_)
 ·have h1:decide ((i:Int)<(l.length:Int))=false:=decide_eq_false (by omega);rw [NV (.inl (by omega)) hi2] at htq;subst htq
  repeat' (first|exact ⟨⟩|refine sp ?_)
end Go.Proofs.YtlbfnbldeefgmaaGreatDoor
end
section
namespace Go.Dm
open Go
theorem NP (s:List UInt8):(eE s).2≤12:=by
 unfold eE
 repeat' split
 all_goals (simp only;decide)
theorem XK {t:List It} {fo:Bool}:∀ (f:Nat) (c:List UInt8) (ps:List (List UInt8)) (h:Nat),(jM t fo f c ps h).2.2≤12
 | 0,_,_,_=>by simp [jM]
 | _+1,_,[],_=>by simp [jM]
 | f+1,c,p::ps,h=>by
  simp only [jM]
  repeat' split
  all_goals first
   | exact XK f _ _ _
   | exact NP _
   | (simp only;decide)
theorem zH0 {t:List It} {s:List UInt8} {fo:Bool}:(cF t s fo).2.2≤12:=by
 unfold cF;split
 ·exact XK _ _ _ _
 ·exact NP _
theorem zGs {is:Bool} {n:Nd}:pL is n≤12:=by
 unfold pL
 repeat' split
 all_goals decide
theorem zFm {t:List It} {p:List UInt8} {is:Bool} {n:Nd} {c:Cl}:(gJ t p is n c).e≤12:=by
 unfold gJ rW
 repeat' split
 all_goals first
  | exact zGs
  | (simp only [anE];decide)
theorem zML {t:List It} {c:Cl} (h:fI c.k=false):(doP t c).2.e≤12:=by
 unfold doP;rw [h];simp only [Bool.not_false,if_true];split
 ·simp only [anE];decide
 ·split
  ·exact zH0
  ·exact zFm
theorem JU {r:Rm} {d:Dr} (h:Sim r d) {s:List UInt8} {n:Nm} {c:Cl} (hn:GD d.N s=some n) (hk:fI c.k=false):ER r s c=(r,(doP (dE d n.l) c).2):=by
 obtain ⟨y,hy,g1,g2,g3,g4,g5⟩:=iN h.toSimW hn;unfold ER;rw [g1,hk];simp only [beq_self_eq_true,Bool.not_true,Bool.false_eq_true,if_false,Bool.and_false];rw [h.toSimW.treeR,← g4];unfold SY;rw [zBR hk,h.toSimW.treeR,if_pos (zR (h.toOkW.tree _))]
theorem QL {r:Rm} {d:Dr} (h:Sim r d) {s:List UInt8} {n:Nm} {c:Cl} (hn:GD d.N s=some n) (hf:pM d n.l=true) (hk:fI c.k=true):ER r s c=(r,anE 14):=by
 obtain ⟨y,hy,g1,g2,g3,g4,g5⟩:=iN h.toSimW hn;rw [← g4,rE g3] at hf;unfold ER;rw [g1,hk,hf];rfl
theorem XR {b:List It} (hb:OkT b):∃ (r1 r2:Rm) (d1:Dr),kC zKR fM (gG [] b)=(r1,0)∧Sim r1 d1∧kH r1 fM v1S=(r2,0)∧Sim r2 (fkD b):=by
 obtain ⟨r1,e1,s1⟩:=XP (s:=fM) GA (zBE OkT.nil hb) (PQ (id:=2) (by kernel_rfl) rfl (by kernel_rfl) (by kernel_rfl) OkT.nil hb);obtain ⟨r2,e2,s2⟩:=xU s1 (zCN b);exact ⟨r1,r2,_,e1,s1,e2,s2⟩
theorem zA9 {r:Rm} {b:List It} {c:Cl} (h:Sim r (fkD b)) (hk:fI c.k=true):ER r v1S c=(r,anE 14) :=
 QL h (n:=⟨v1S,2⟩) (by kernel_rfl) (by kernel_rfl) hk
theorem zFn {r:Rm} {b:List It} {c:Cl} (h:Sim r (fkD b)) (hk:fI c.k=false):ER r v1S c=(r,(doP b c).2)∧ER r fM c=(r,(doP b c).2):=by
 have h1:=JU h (s:=v1S) (n:=⟨v1S,2⟩) (by kernel_rfl) hk;have h2:=JU h (s:=fM) (n:=⟨fM,3⟩) (by kernel_rfl) hk;rw [show dE (fkD b) 2=b by kernel_rfl] at h1
 rw [show dE (fkD b) 3=b by kernel_rfl] at h2
 exact ⟨h1,h2⟩
section
variable {r:Rm} {T:Nat→List It} {t:List It} {k:Nat}
end
end Go.Dm
end
section
namespace Go.Proofs.YtlbfnbldeefgmaaGreatDoor
open Go Go.Dm Go.Proofs
set_option maxRecDepth 100000
set_option maxHeartbeats 16000000
theorem EK {r r':Rm} {d:Dr} {s:List UInt8} {c:Cl} {a:An} (h:Sim r d) (hc:OkC c) (he:ER r s c=(r',a)):
  aA Tryz.prog 10 [.c (.ptr 0 0),.c (.p (.s s)),.agg (clv c)] (cB r) fun d h=>d=.agg (anv a)∧h=cB r':=by
 obtain ⟨ck,cp,cq,cm,ct,ca,cn,cd⟩:=c;exact zNE h hc.t hc.p hc.d hc.q hc.a he
end Go.Proofs.YtlbfnbldeefgmaaGreatDoor
end
