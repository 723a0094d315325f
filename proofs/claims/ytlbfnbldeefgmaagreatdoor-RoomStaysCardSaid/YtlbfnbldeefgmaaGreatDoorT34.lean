/- Part 35 of the proof of roomStays_card, set without needless blanks. No condition. -/
import Derived.Test.YtlbfnbldeefgmaaGreatDoorT33
set_option linter.all false
set_option maxRecDepth 100000
set_option maxHeartbeats 16000000
section
namespace Go.Dm
open Go Go.Proofs Go.Sort
theorem BO{w:World}{S:Nat->Prop}{bl:Nat}:∀{ss:List Int} {off:Nat},fC w S 1 bl off (dG ss)↔∀j (hj:j<ss.length),w.cell? ⟨bl,off+j,none⟩=some (.int .i64 ss[j])
 | [],off=>by simp[dG,fC]
 | a::ss,off=>by
  have ih:=@BO w S bl ss (off+1);show ((([PV.i .i64 a]:List PV).length=1/\gW w S bl off [.i .i64 a])/\fC w S 1 bl (off+1) (dG ss))↔_;rw[ih];simp only[gW,dF,List.length_cons,List.length_nil,and_true,true_and];constructor
  .rintro⟨⟨v,h1,rfl⟩,h2⟩ j hj;cases j with
   | zero=>exact h1
   | succ j=>simpa[Nat.add_assoc,Nat.add_comm 1 j] using h2 j (by simpa using hj)
  .intro h;refine⟨⟨_,by simpa using h 0 (by simp),rfl⟩,λj hj=>?_⟩
   have:=h (j+1) (by simpa using hj);rw[show off+(j+1)=off+1+j by omega] at this
   exact this
theorem zAR{w:World}{S:Nat->Prop}{bl off:Nat}{ss:List Int}{arr:Array Value}{el:TypeId}{fz:Nat × Nat}(hb:w.heap[bl]?=some (.cells arr el fz))(hf:XL fz off arr.size)(hs:off+ss.length<=arr.size)(hl:fC w S 1 bl off (dG ss)):Holds (Value.int .i64) w bl off ss.toArray:=by
 intro j hj;have hj':j<ss.length:=by simpa using hj
 refine⟨?_,?_⟩
 .rw[BO.1 hl j hj'];simp[hj']
 .have:=hf.at_ (off+j) (by omega) (by omega);simp only[World.frozen?,hb];simpa using this
theorem CK{w:World}{n bl off:Nat}{d:Array Int}{arr:Array Value}{el:TypeId}{fz:Nat × Nat}(hb:w.heap[bl]?=some (.cells arr el fz)):Touched w (putRow (Value.int .i64) (Sort.ahead w n) bl off d) bl where
 os:=rfl
 tape:=rfl
 output:=⟨rfl,Nat.le_add_right _ _⟩
 size:=by simp
 other:=λb hne=>by simp[putRow,mapBlock,Array.getElem?_modify,Ne.symm hne]
 here:=.inl ⟨arr,el,fz,putCells (Value.int .i64) off d arr,el,fz,hb,by simp[putRow,mapBlock,Array.getElem?_modify,hb,onCells],by simp[putCells]⟩
theorem LU{P:Program}{f:FuncId}(hen:∀(vals:List Value) (w:World),(callFunc f vals.toArray).run P w=.ok (.enter f vals.toArray) w)
  (hS:∀(blk off cap:Nat) (ss:List Int) (w:World),Holds (Value.int .i64) w blk off ss.toArray->blk<w.heap.size->ss.length<4611686018427387904 ->
   Calls P f #[.slice (some ⟨blk,off,none⟩) ss.length cap] w λe w'=>e=.returned (.tuple #[])/\∃n os,w'=grow (putRow (Value.int .i64) (Sort.ahead w n) blk off (ss.mergeSort λx y=>decide (x<=y)).toArray) os)
  (hN:∀(p:Option Addr) (cap:Nat) (w:World),Calls P f #[.slice p 0 cap] w λe w'=>e=.returned (.tuple #[])/\w'=w)
  {h:aB}{id:Nat}{ss:List Int}(hid:h[id]?=some (.arr 1 (dG ss) false))(hsz:ss.length<4611686018427387904):
  aA P f [.c (.own id 0 ss.length)] h λd h'=>d=.tup []/\h'=h.set id (.arr 1 (dG (ss.mergeSort λx y=>decide (x<=y))) false):=by
 intro X vals hh hi gd hr;subst hh;obtain⟨v,rfl,hv⟩:∃v,vals=[v]/\bA X (.c (.own id 0 ss.length)) v:=by
  cases vals with
  | nil=>exact hr.elim
  | cons v vs=>cases vs with
   | nil=>exact⟨v,rfl,hr.1⟩
   | cons _ _=>exact hr.2.elim
 refine .inl ⟨hen _ _,?_⟩;obtain⟨h1,h2,h3⟩:=hv;obtain⟨h4,h5⟩:=h3 _ _ _ hid;have hb:=hi.blk id _ hid;have e0:ss=[]->X.h.set id (.arr 1 (dG (ss.mergeSort λx y=>decide (x<=y))) false)=X.h:=by
  rintro rfl;rw[List.mergeSort_nil];exact(List.getElem?_eq_some_iff.1 hid).elim λhlt he=>by rw[<- he];exact List.set_getElem_self hlt
 have fin0:ss=[]->∀(p:Option Addr) (cap:Nat),v=.slice p 0 cap->Calls P f [v].toArray X.w λe w'=>∃v,e=.returned v/\Ret X (λd h'=>d=.tup []/\h'=X.h.set id (.arr 1 (dG (ss.mergeSort λx y=>decide (x<=y))) false)) v w':=by
  rintro hs p cap rfl;refine(hN p cap X.w).mono ?_;rintro e w' ⟨rfl,rfl⟩;exact⟨_,rfl,.tup [],X,rfl,hi,Step.refl hi,⟨[],rfl,True.intro⟩,rfl,(e0 hs).symm⟩
 cases hg:X.G id with
 | none =>
  rw [hg] at h5;simp only at h5;have hs:ss=[]:=by
   rcases hb with hb|⟨g,_,_,_,hb,_⟩
   .simpa[dG] using hb.2
   .rw[hg] at hb;cases hb
  exact fin0 hs _ _ h5
 | some g =>
  rw[hg] at h5;simp only at h5;obtain⟨cap,o,arr,el,fz,k1,k2,k3,k4,k5,k6⟩:=h5;by_cases hz:ss.length=0
  .rw[hz] at k2;exact fin0 (List.length_eq_zero_iff.1 hz) _ _ k2
  .have ho:o=g.2:=by rcases k3 with k3|k3<;>omega
   subst ho;rcases hb with hb|⟨g',arr',el',fz',b1,b2,b3,b4,b5⟩
   .rw[hg] at hb;cases hb.1
   rw [hg] at b1;cases b1;rw[k1] at b2;cases b2;rw[eZ,Nat.mul_one] at b3;have hH:=zAR k1 b4.1 b3 b5;have hlt:g.1<X.w.heap.size:=by
    rcases Nat.lt_or_ge g.1 X.w.heap.size with hb|hb
    .exact hb
    .rw[Array.getElem?_eq_none hb] at k1;cases k1
   subst k2;refine(hS g.1 g.2 cap ss X.w hH hlt hsz).mono ?_;rintro e w' ⟨rfl,n,os,rfl⟩;generalize hst:(ss.mergeSort λx y=>decide (x<=y))=st;have hsl:st.length=ss.length:=by rw[<- hst];exact List.length_mergeSort ..
   have ht:=CK (n:=n) (off:=g.2) (d:=st.toArray) k1;have hsb:cG (.arr 1 (dG ss) false) (.arr 1 (dG st) false):=⟨rfl,by rw[eZ,eZ];omega⟩
   have hbb:eC (X.put (putRow (Value.int .i64) (Sort.ahead X.w n) g.1 g.2 st.toArray) id (.arr 1 (dG st) false)) id (.arr 1 (dG st) false):=by
    refine .inr ⟨g,putCells (Value.int .i64) g.2 st.toArray arr,el,fz,hg,by simp[Ctx.put,putRow,mapBlock,Array.getElem?_modify,k1,onCells],?_,?_,?_⟩
    .rw[eZ,Nat.mul_one,hsl];simpa[putCells] using b3
    .simpa[putCells] using b4
    .refine BO.2 λj hj=>?_;have:=cell?_putRow (Value.int .i64) (Sort.ahead X.w n) g.1 g.2 ss.toArray st.toArray (λj hj=>hH j hj) (by simpa using hsl) j (by simpa using hj);show (putRow (Value.int .i64) (Sort.ahead X.w n) g.1 g.2 st.toArray).cell? _=_;rw[this];simp[hj]
   have hi1:=HInv.put hi hid rfl rfl hg ht hsb rfl hbb;have hs1:=Step.put hi hid rfl rfl hg ht hsb rfl;exact⟨_,rfl,.tup [],_,rfl,HInv.grew hi1 os,hs1.trans hi1 (Step.grew hi1 os),⟨[],rfl,True.intro⟩,rfl,rfl⟩
end Go.Dm
end
section
namespace Go.Proofs.YtlbfnbldeefgmaaGreatDoor
open Go Go.Dm Go.Proofs Go.Proofs.Tryz
theorem zMy{h:aB}{id n:Nat}{ss:List Int}{K:DV->aB->Prop}(hid:h[id]?=some (.arr 1 (dG ss) false))(hsz:ss.length<4611686018427387904)(hn:n=ss.length)
  (hk:K (.tup []) (h.set id (.arr 1 (dG (ss.mergeSort λx y=>decide (x<=y))) false))):aA prog 260 [.c (.own id 0 n)] h K:=by
 subst hn;exact aA.mono (LU (enters Tryz.func260 rfl rfl) (λblk off cap ss w h1 h2 h3=>Tryz.slices_Sort_int blk off cap ss w h1 h2 h3) (λp cap w=>Tryz.slices_Sort_int_none p cap w) hid hsz) (by rintro d h' ⟨rfl,rfl⟩;exact hk)
def zBS(O:List Int):List (Int × PV):=O.map λa=>(a,.b true)
theorem vY:∀(O:List Int) (a:Int),oG (zBS O) a (.b false)=.b (O.contains a)
 | [],_=>rfl
 | x::O,a=>by
  simp only[zBS,List.map_cons,oG,List.contains_cons];by_cases h:x=a
  .subst h;simp
  .have h2:(a==x)=false:=by simpa using λe=>h e.symm
   rw[if_neg h,h2,Bool.false_or];exact vY O a
theorem QZ:∀(O:List Int) (a:Int),O.contains a=false->CX (zBS O) a (.b true)=zBS (O++[a])
 | [],_,_=>rfl
 | x::O,a,h=>by
  simp only[List.contains_cons,Bool.or_eq_false_iff] at h;have h2:x≠a:=λe=>by subst e;simp at h
  simp only[zBS,List.map_cons,CX,List.cons_append];rw[if_neg h2];exact congrArg _ (QZ O a h.2)
theorem zH1(t:List Int)(a b:Int):dG t++[[.i .i64 a],[.i .i64 b]]=dG (t++[a,b]):=by simp[dG]
theorem rC{l:List Ly}{a:Int}(hl:l.length<=100000)(hgr:OkG l):aA prog 213 [.c (.p (.sl 4 (cM l))),.c (.p (.i .i64 a))] [] λr h=>r=.c (.own 0 0 (dG (pW l a)).length)/\h=[.arr 1 (dG (pW l a)) false]:=by
 refine aA.rowR ?_;refine SB aD aL func213 rfl rfl λX0 hX=>?_;simp only[f213,go_sem]
 repeat' (first|exact⟨⟩|refine sp ?_|refine ai ?_)
 refine dE aD aL (α:=List Int × List Int) (λx=>⟨52,[(0,.c (.p (.sl 4 (cM l)))),(5,.c (.mp 0)),(6,.c (.own 1 0 x.1.length)),(7,.c (.own 2 0 x.2.length))],[.mp (zBS x.2),.arr 1 (dG x.1) false,.arr 1 (dG x.2) false]⟩)
  (λx=>Bfs l a x.1 x.2/\x.2.length<=l.length) (λx=>3*(l.length-x.2.length)+x.1.length) ([a],[]) ⟨Bfs.start,Nat.zero_le _⟩ ((pA 7 1 rfl).trans (cJ (aF (by rw[hX];rfl) rfl rfl wkK))) ?_
 rintro⟨T,O⟩ ⟨hB,hO⟩;simp only at hB hO ⊢;have hlen:=hB.len;cases T with
 | nil =>
  have hd:=hB.done hgr;have hls:(O.mergeSort λx y=>decide (x<=y)).length=O.length:=List.length_mergeSort ..;have hk:∀{h:aB} {i:Nat} {K:DV->aB->Prop},h[i]?=some (.arr 1 (dG O) false)->K (.tup []) (h.set i (.arr 1 (dG (pW l a)) false))->aA prog 260 [.c (.own i 0 O.length)] h K:=λh0 hk=>zMy h0 (by omega) rfl (by rw[hd];exact hk)
  rw[hd] at hls;clear hd hlen hO hB
  repeat' (first|exact⟨⟩|refine sp ?_|refine hk rfl ?_)
  exact .inr ⟨2,rfl,rfl⟩
 | cons t T =>
  simp only[List.length_cons] at hlen ⊢;have h1:decide ((0:Int)<((T.length+1:Nat):Int))=true:=decide_eq_true (by omega);have hfc:=HP (l:=l) (a:=t) (by omega);have hg0:(dG (t::T)).getD 0 []=[.i .i64 t]:=rfl;have htk:((dG (t::T)).drop 1).take T.length=dG T:=by rw[show (dG (t::T)).drop 1=dG T from rfl,<- eZ T,List.take_length]
  have htk:=PLift.up htk;cases hf:dR l t with
  | none =>
   have hsk:=hB.skip (.inl hf);rw[hf] at hfc;clear hB hf;have hsk:=PLift.up hsk
   repeat' (first|simp only[*,go_sem,Nat.reduceLT,Nat.reduceLeDiff,Nat.reduceEqDiff,↓reduceIte,Nat.reduceAdd,Int.reduceLE,Int.reduceToNat,Option.isSome_none,Option.getD_none]|refine uF (hfc) ?_|refine ai ?_)
   exact kT (T,O) ⟨hsk.down,hO⟩ (by simp only[List.length_cons];omega) (KQ.trans (AJ 6 1 1 T.length rfl rfl) (by rw[htk.down];exact cF (dQ [0,4,2] rfl hpK rfl wpK)))
  | some x =>
   rw[hf] at hfc;cases hc:O.contains x.i
   .have hn:t ∉ O:=by
     have e:=(oR hf).2;rw[<- e];simpa using hc
    obtain⟨m1,m2,m3⟩:=hB.more hgr hf hn;have hsl:=vY O x.i;have hss:=QZ O x.i hc;rw[hc] at hsl;clear hB hf hn m2;have m1:=PLift.up m1;have e1:(T++[x.p,x.s]).length=T.length+1-1+2:=by simp
    have e2:(O++[x.i]).length=O.length+1:=by simp
    have e1:=PLift.up e1;have e2:=PLift.up e2
    repeat' (first|simp only[*,go_sem,Nat.reduceLT,Nat.reduceLeDiff,Nat.reduceEqDiff,↓reduceIte,Nat.reduceAdd,Int.reduceLE,Int.reduceToNat,Nat.reduceBEq,Option.isSome_some,Option.getD_some,zH1,List.drop_succ_cons,List.drop_zero]|refine uF (hfc) ?_|((with_reducible refine And.intro ?_ ?_);((first|omega|decide))))
    exact kT (T++[x.p,x.s],O++[x.i]) ⟨m1.down,by simp;omega⟩ (by simp;omega) (by rw[e1.down,e2.down];exact cF (dQ [0,7,5] rfl hpK rfl wpK))
   .have hn:t∈O:=by
     have e:=(oR hf).2;rw[<- e];simpa using hc
    have hsk:=hB.skip (.inr hn);have hsl:=vY O x.i;rw[hc] at hsl;clear hB hf hn;have hsk:=PLift.up hsk
    repeat' (first|simp only[*,go_sem,Nat.reduceLT,Nat.reduceLeDiff,Nat.reduceEqDiff,↓reduceIte,Nat.reduceAdd,Int.reduceLE,Int.reduceToNat,Option.isSome_some,Option.getD_some]|refine uF (hfc) ?_|refine ai ?_)
    exact kT (T,O) ⟨hsk.down,hO⟩ (by simp only[List.length_cons];omega) (KQ.trans (AJ 6 1 1 T.length rfl rfl) (by rw[htk.down];exact cF (dQ [0,4,2] rfl hpK rfl wpK)))
theorem rE{h:aB}{i n:Nat}{l:List Int}{a:Int}{K:DV->aB->Prop}(hl:l.length<=1000000)(hn:n=l.length)(h0:h[i]?=some (.arr 1 (dG l) false))(hk:K (.c (.p (.b (l.contains a)))) h):
  aA prog 216 [.c (.own i 0 n),.c (.p (.i .i64 a))] h K :=
 XF rfl (by rw[hn,<- eZ,List.take_length]) (SU hl) h0 (λd hd=>by subst hd;exact⟨rfl,hk⟩)
theorem zNg{l:List Ly}{a b:Int}(hl:l.length<=100000)(hgr:OkG l):aA prog 167 [.c (.p (.sl 4 (cM l))),.c (.p (.i .i64 a)),.c (.p (.i .i64 b))] [] λr h=>r=.c (.p (.i .i64 (xD l a b)))/\h=[]:=by
 have hA:=rC (a:=a) hl hgr;have hB:=rC (a:=b) hl hgr;have la:=xM l a;have lb:=xM l b;unfold xD;rw[eZ] at hA hB;generalize pW l a=A at hA la ⊢;generalize pW l b=B at hB lb ⊢;refine eT func167 λX0 hX=>?_;simp only[f167,go_sem]
 repeat' (first|exact⟨⟩|refine sp ?_|refine uS [] (hB) ?_|refine uS [] (hA) ?_)
 refine aY aD aL (α:=Nat) (λk=>⟨28,[(8,.c (.own 0 0 B.length)),(16,.c (.own 1 0 A.length)),(17,.c (.p (.i .i64 A.length))),(18,.c (.p (.i .i64 k))),(7,.c (.p (.i .i64 ((((A.take k).filter λx=>B.contains x).getLast?).getD 0))))],[.arr 1 (dG B) false,.arr 1 (dG A) false]⟩)
  (λk=>k<=A.length) (λk=>A.length-k) 0 (Nat.zero_le _) (.inl (aF (by rw[hX];rfl) rfl rfl wkK)) ?_
 intro k hk;by_cases hlt:k<A.length
 .have hx:A[k]?=some A[k]:=List.getElem?_eq_getElem hlt;have hg:=rI hx;have h1:decide ((k:Int)<(A.length:Int))=true:=decide_eq_true (by omega);have h2:(k:Int)<(A.length:Int):=by omega
  have h3:(0:Int)<=k:=by omega
  have w1:IntKind.i64.wrap ((k:Int)+1)=k+1:=wrap_i64 (by omega) (by omega);have ht:((A.take (k+1)).filter λx=>B.contains x)=((A.take k).filter λx=>B.contains x)++(if B.contains A[k] then [A[k]] else []):=by
   rw[List.take_add_one,hx,List.filter_append];show _++List.filter _ [A[k]]=_;rw[List.filter_cons,List.filter_nil]
  generalize A[k]=x at hx hg ht;have hck:∀{h:aB} {i:Nat} {K:DV->aB->Prop},h[i]?=some (.arr 1 (dG B) false)->K (.c (.p (.b (B.contains x)))) h->aA prog 216 [.c (.own i 0 B.length),.c (.p (.i .i64 x))] h K:=λh0 hk=>rE (by omega) rfl h0 hk;clear hx hA hB;cases hc:B.contains x
  .rw[hc] at hck ht;rw[if_neg (by decide),List.append_nil] at ht;have ht:=PLift.up ht
   repeat' (first|exact⟨⟩|refine sp ?_|refine hck rfl ?_)
   exact gZ (k+1) (by omega) (by omega) (by rw[ht.down];exact aF rfl rfl rfl wkK)
  .rw[hc] at hck ht;rw[if_pos rfl] at ht;have hv:((((A.take (k+1)).filter λx=>B.contains x).getLast?).getD 0)=x:=by rw[ht,List.getLast?_append];rfl
   have hv:=PLift.up hv;clear ht
   repeat' (first|exact⟨⟩|refine sp ?_|refine hck rfl ?_)
   exact gZ (k+1) (by omega) (by omega) (by rw[hv.down];exact aF rfl rfl rfl wkK)
 .have hke:k=A.length:=by omega
  subst hke;rw[List.take_length];have h1:decide ((A.length:Int)<(A.length:Int))=false:=decide_eq_false (by omega);clear hA hB
  repeat' (first|exact⟨⟩|refine sp ?_)
def goK(S:List Int)(x:Ly):Bool:=!S.contains x.i
theorem zEv{S:List Int}{es:List (List PV)}{i p s:Int}{f:Bool}(hp:S.length<=1000000):
  aA prog 215 [.agg [.p (.i .i64 i),.p (.i .i64 p),.p (.i .i64 s),.p (.b f)],.c (.ptr 0 0)] [.box [.own 1 0 S.length],.arr 1 (dG S) false,.arr 4 es false]
   λr h=>r=.c (.p (.b (!S.contains i)))/\h=[.box [.own 1 0 S.length],.arr 1 (dG S) false,.arr 4 es false]:=by
 have hck:∀{h:aB} {j:Nat} {K:DV->aB->Prop},h[j]?=some (.arr 1 (dG S) false)->K (.c (.p (.b (S.contains i)))) h->aA prog 216 [.c (.own j 0 S.length),.c (.p (.i .i64 i))] h K:=λh0 hk=>rE hp rfl h0 hk;refine eT func215 λX0 hX=>?_;simp only[f215,go_sem]
 repeat' (simp only[*,go_sem,Nat.reduceLT,Nat.reduceEqDiff,↓reduceIte,Nat.reduceAdd,bH,aT])
theorem zEw{S:List Int}{es:List (List PV)}{i p s:Int}{f:Bool}(hp:S.length<=1000000):
  aA prog 215 [.agg [.p (.i .i64 i),.p (.i .i64 p),.p (.i .i64 s),.p (.b f)],.c (.ptr 0 0)] [.box [.own 1 0 S.length],.arr 1 (dG S) false,.arr 4 es false,.box [.p (.i .i64 i),.p (.i .i64 p),.p (.i .i64 s),.p (.b f)]]
   λr h=>r=.c (.p (.b (!S.contains i)))/\h=[.box [.own 1 0 S.length],.arr 1 (dG S) false,.arr 4 es false,.box [.p (.i .i64 i),.p (.i .i64 p),.p (.i .i64 s),.p (.b f)]]:=by
 have hck:∀{h:aB} {j:Nat} {K:DV->aB->Prop},h[j]?=some (.arr 1 (dG S) false)->K (.c (.p (.b (S.contains i)))) h->aA prog 216 [.c (.own j 0 S.length),.c (.p (.i .i64 i))] h K:=λh0 hk=>rE hp rfl h0 hk;refine eT func215 λX0 hX=>?_;simp only[f215,go_sem]
 repeat' (simp only[*,go_sem,Nat.reduceLT,Nat.reduceEqDiff,↓reduceIte,Nat.reduceAdd,bH,aT])
theorem zID{t:List Ly}{S:List Int}(hp:S.length<=1000000)(ht:t.length<=1000000):
  aA prog 118 [.c (.own 2 0 t.length),.c (.clo 215 [.ptr 0 0])] [.box [.own 1 0 S.length],.arr 1 (dG S) false,.arr 4 (cM t) false]
   λr h=>(∃i:Nat,i<=t.length/\(∀j x,t[j]?=some x->j<i->goK S x=false)/\((∃x,t[i]?=some x/\goK S x=true/\r=.c (.p (.i .i64 i)))∨(i=t.length/\r=.c (.p (.i .i64 (-1))))))/\h=[.box [.own 1 0 S.length],.arr 1 (dG S) false,.arr 4 (cM t) false]:=by
 refine eT func118 λX0 hX=>?_;simp only[f118,go_sem]
 repeat' (first|exact⟨⟩|refine sp ?_)
 refine aY aD aL (α:=Nat) (λk=>⟨19,[(0,.c (.own 2 0 t.length)),(1,.c (.clo 215 [.ptr 0 0])),(7,.c (.p (.i .i64 t.length))),(8,.c (.p (.i .i64 k)))],[.box [.own 1 0 S.length],.arr 1 (dG S) false,.arr 4 (cM t) false]⟩)
  (λk=>k<=t.length/\∀j x,t[j]?=some x->j<k->goK S x=false) (λk=>t.length-k) 0 ⟨Nat.zero_le _,λj x _ h=>by omega⟩ (.inl (aF (by rw[hX];rfl) rfl rfl wkS)) ?_
 rintro k ⟨hk,hs⟩;by_cases hlt:k<t.length
 .have hx:t[k]?=some t[k]:=List.getElem?_eq_getElem hlt;have hg:=lZ hx;have h1:decide ((k:Int)<(t.length:Int))=true:=decide_eq_true (by omega);have hli:(k:Int)<(t.length:Int):=by omega
  have w1:IntKind.i64.wrap ((k:Int)+1)=k+1:=wrap_i64 (by omega) (by omega);generalize t[k]=x at hx hg;cases hb:goK S x
  .have hs':k+1<=t.length/\∀j y,t[j]?=some y->j<k+1->goK S y=false:=⟨by omega,λj y hy hj=>by
    rcases Nat.lt_or_ge j k with h|h
    .exact hs j y hy h
    .have:j=k:=by omega
     subst this;rw[hx] at hy;cases hy;exact hb⟩
   have hb2:(!S.contains x.i)=false:=hb;clear hs hx hb
   repeat' (first|exact⟨⟩|refine sp ?_|refine ai ?_)
   refine aA.mono (zEv hp) ?_;rintro _ _ ⟨rfl,rfl⟩;rw[hb2]
   repeat' (first|exact⟨⟩|refine sp ?_)
   exact gZ (k+1) hs' (by omega) (aF rfl rfl rfl wkS)
  .have hb2:(!S.contains x.i)=true:=hb
   repeat' (first|exact⟨⟩|refine sp ?_|refine ai ?_)
   refine aA.mono (zEv hp) ?_;rintro _ _ ⟨rfl,rfl⟩;rw[hb2];clear hb2
   repeat' (simp only[*,go_sem,Nat.reduceLT,Nat.reduceEqDiff,↓reduceIte,Int.reduceNeg,bH,aT])
   exact⟨k,hk,hs,.inl ⟨x,hx,hb,rfl⟩⟩
 .have h1:decide ((k:Int)<(t.length:Int))=false:=decide_eq_false (by omega);have hk2:k=t.length:=by omega
  subst hk2
  repeat' (simp only[*,go_sem,Nat.reduceLT,Nat.reduceEqDiff,↓reduceIte,Nat.reduceAdd,Int.reduceNeg,bH,aT])
  refine⟨t.length,Nat.le_refl _,hs,.inr ?_⟩
  first|exact⟨rfl,rfl⟩|rfl
theorem zCR{t:List Ly}{S:List Int}{K:DV->aB->Prop}(hp:S.length<=1000000)(ht:t.length<=1000000)
  (hk:∀es:List (List PV),es.take (t.filter λx=>!goK S x).length=cM (t.filter λx=>!goK S x)->K (.c (.own 2 0 (t.filter λx=>!goK S x).length)) [.box [.own 1 0 S.length],.arr 1 (dG S) false,.arr 4 es false]):
  aA prog 214 [.c (.own 2 0 t.length),.c (.clo 215 [.ptr 0 0])] [.box [.own 1 0 S.length],.arr 1 (dG S) false,.arr 4 (cM t) false] K:=by
 refine SB aD aL func214 rfl rfl λX0 hX=>?_;simp only[f214,go_sem]
 repeat' (first|exact⟨⟩|refine sp ?_)
 refine aA.mono (zID hp ht) ?_;rintro _ _ ⟨⟨i0,hi0,hbef,hcase⟩,rfl⟩;rcases hcase with⟨x0,hx0,hg0,rfl⟩|⟨rfl,rfl⟩
 .have hil:i0<t.length:=(List.getElem?_eq_some_iff.1 hx0).1;have q:((i0:Int) == -1)=false:=by rw[beq_eq_false_iff_ne];omega
  have w0:IntKind.i64.wrap ((i0:Int)+1)=(i0+1:Nat):=wrap_i64 (by omega) (by omega)
  repeat' (first|exact⟨⟩|refine sp ?_)
  have hself:(t.take i0).filter (λx=>!goK S x)=t.take i0:=List.filter_eq_self.2 λx hx=>by
   obtain⟨j,hj,rfl⟩:=List.mem_iff_getElem.1 hx;rw[List.getElem_take];have hj2:j<i0:=by simp at hj;omega
   rw[hbef j _ (List.getElem?_eq_getElem (by omega)) hj2];rfl
  have h0:(t.take (i0+1)).filter (λx=>!goK S x)=t.take i0:=by
   rw[fG hx0,hself,hg0];simp
  refine aY aD aL (α:=Nat × Nat × List Ly) (λx=>⟨42,[(0,.c (.own 2 0 t.length)),(1,.c (.clo 215 [.ptr 0 0])),(5,.c (.p (.i .i64 x.2.1))),(6,.c (.p (.i .i64 x.1)))],[.box [.own 1 0 S.length],.arr 1 (dG S) false,.arr 4 (cM x.2.2) false]⟩)
   (λx=>x.1<=t.length/\x.2.1<x.1/\x.2.2.length=t.length/\x.2.2.take x.2.1=(t.take x.1).filter (λx=>!goK S x)/\x.2.2.drop x.1=t.drop x.1) (λx=>t.length-x.1) (i0+1,i0,t)
   ⟨by omega,by simp,rfl,by rw[h0],rfl⟩ (.inl (aF (by rw[hX];rfl) rfl rfl wkS)) ?_
  clear hself h0 hbef hx0 hg0 q w0 hil hi0;rintro⟨j,i,R⟩ ⟨hj,hij,hRl,hRt,hRd⟩;simp only at hj hij hRl hRt hRd;by_cases hlt:j<t.length
  .have hx:t[j]?=some t[j]:=List.getElem?_eq_getElem hlt;have hxR:R[j]?=some t[j]:=by
    have h3:R[j]?=t[j]? := by
     have:=congrArg (·[0]?) hRd
     simpa[List.getElem?_drop] using this
    exact h3.trans hx
   have hg:=lZ hxR;have h1:decide ((j:Int)<(t.length:Int))=true:=decide_eq_true (by omega);have hli:(j:Int)<(t.length:Int):=by omega
   have hli2:(i:Int)<(t.length:Int):=by omega
   have w1:IntKind.i64.wrap ((j:Int)+1)=(j+1:Nat):=wrap_i64 (by omega) (by omega);have w2:IntKind.i64.wrap ((i:Int)+1)=(i+1:Nat):=wrap_i64 (by omega) (by omega);have hnx:=fG (g:=λx=>!goK S x) hx;generalize t[j]=x at hx hxR hg hnx;have hRd2:R.drop (j+1)=t.drop (j+1):=by rw[<- List.drop_drop,<- List.drop_drop,hRd]
   cases hb:goK S x
   .rw [hb] at hnx;have hJ:j+1<=t.length/\i+1<j+1/\(R.set i x).length=t.length/\(R.set i x).take (i+1)=(t.take (j+1)).filter (λx=>!goK S x)/\(R.set i x).drop (j+1)=t.drop (j+1):=by
     refine⟨by omega,by omega,by simp[hRl],?_,?_⟩
     .rw[hnx,List.take_add_one,List.getElem?_set_self (by omega),List.take_set,List.set_eq_of_length_le (by rw[List.length_take];omega),hRt];rfl
     .rw[List.drop_set,if_pos (by omega),hRd2]
    have hb2:(!S.contains x.i)=false:=hb;have hgi:=lZ (l:=R) (k:=i) (List.getElem?_eq_getElem (by omega));generalize (R[i]'(by omega))=y at hgi;clear hnx hRt hRd hRd2 hx hxR hb
    repeat' (first|exact⟨⟩|refine sp ?_|refine ai ?_)
    refine aA.mono (zEw hp) ?_;rintro _ _ ⟨rfl,rfl⟩;rw[hb2]
    repeat' (first|exact⟨⟩|refine sp ?_|refine ai ?_)
    exact gZ (j+1,i+1,R.set i x) hJ (by simp only;omega) (aF rfl (by simp only[<- YB];rfl) rfl wkS)
   .rw[hb] at hnx;have hJ:j+1<=t.length/\i<j+1/\R.length=t.length/\R.take i=(t.take (j+1)).filter (λx=>!goK S x)/\R.drop (j+1)=t.drop (j+1):=⟨by omega,by omega,hRl,by rw[hnx,hRt];simp,hRd2⟩
    have hb2:(!S.contains x.i)=true:=hb;clear hnx hRt hRd hRd2 hx hxR hb
    repeat' (first|exact⟨⟩|refine sp ?_|refine ai ?_)
    refine aA.mono (zEw hp) ?_;rintro _ _ ⟨rfl,rfl⟩;rw[hb2]
    repeat' (first|exact⟨⟩|refine sp ?_)
    exact gZ (j+1,i,R) hJ (by simp only;omega) (aF rfl rfl rfl wkS)
  .have h1:decide ((j:Int)<(t.length:Int))=false:=decide_eq_false (by omega);have htt:t.take j=t:=List.take_of_length_le (by omega);rw[htt] at hRt;have hil:(t.filter λx=>!goK S x).length=i:=by
    rw[<- hRt,List.length_take];omega
   have hli:(i:Int)<=(t.length:Int):=by omega
   have hi0:(0:Int)<=i:=by omega
   have hni:i+(t.length-i)=R.length:=by omega
   rw[hil] at hk;clear htt hRd hij
   repeat' (first|exact⟨⟩|refine sp ?_|refine ai ?_)
   all_goals first|refine hk _ ?_|refine⟨by omega,hk _ ?_⟩
   all_goals exact List.take_left' (by simp[cM,hil])
 .have hself:t.filter (λx=>!goK S x)=t:=List.filter_eq_self.2 λx hx=>by
   obtain⟨j,hj,rfl⟩:=List.mem_iff_getElem.1 hx;rw[hbef j _ (List.getElem?_eq_getElem hj) hj];rfl
  rw[hself] at hk;clear hself
  repeat' (first|exact⟨⟩|refine sp ?_)
  all_goals exact hk _ (List.take_of_length_le (by simp))
end Go.Proofs.YtlbfnbldeefgmaaGreatDoor
end
section
namespace Go.Dm
open Go
theorem aA.rowP{P:Program}{f:FuncId}{args:List DV}{k:Nat}{es:List (List PV)}(hc:aA P f args [] λd h'=>(d=.c (.p .nil)/\es=[])∨∃j off es',d=.c (.own j off es.length)/\h'[j]?=some (.arr k es' false)/\(es'.drop off).take es.length=es):
  aA P f args [] λd h'=>d=.c (.own 0 0 es.length)/\h'=[.arr k es false]:=by
 refine aA.rowR ?_;intro X vals hh hi gd hr;have key:∀v w',Ret X (λd h'=>(d=.c (.p .nil)/\es=[])∨∃j off es',d=.c (.own j off es.length)/\h'[j]?=some (.arr k es' false)/\(es'.drop off).take es.length=es) v w'->Ret X (λd h'=>(d=.c (.p .nil)/\es=[])∨∃j,d=.c (.own j 0 es.length)/\h'[j]?=some (.arr k es false)) v w':=by
  rintro v w' ⟨d,Z,k1,k2,k3,k4,k5⟩;rcases k5 with h|⟨j,off,es',rfl,hj,he⟩
  .exact⟨d,Z,k1,k2,k3,k4,.inl h⟩
  .have hrel:∀i:Nat,bA Z (look [(0,.c (.own j off es.length))] i) ((#[v]:Array Value).getD i undef):=λi=>by
    simp only[look];split
    .rename_i h0;subst h0;exact k4
    .exact True.intro
   obtain⟨X',p1,p2,p3,p4,p5⟩:=AJ (n0:=X.h.length) (s:=⟨1,[(0,.c (.own j off es.length))],Z.h⟩) 0 j off es.length rfl hj X Z ⟨#[v],[]⟩ rfl rfl k2 k3 ⟨rfl,hrel,rfl⟩;have hv:bA X' (.c (.own Z.h.length 0 es.length)) v:=p5.rel 0;refine⟨_,X',p1.trans k1,p3,p4,hv,.inr ⟨Z.h.length,rfl,?_⟩⟩;rw[p2,List.getElem?_append_right (by simp),List.length_set,Nat.sub_self,he];rfl
 rcases hc X vals hh hi gd hr with⟨h1,h2⟩|⟨v,w',h1,h2⟩
 .exact .inl ⟨h1,h2.mono λe w' ⟨v,he,hv⟩=>⟨v,he,key v w' hv⟩⟩
 .exact .inr ⟨v,w',h1,key v w' h2⟩
theorem FM{X Y:Ctx}{bl:Nat}(hw:Y.w=X.w)(hc:∀c v,bV X c v->bV Y c v){x y:CV}(hxy:∀v,bV X x v->bV Y y v):∀{cs:List CV} {off n:Nat},cY X bl off cs->cs[n]?=some x->cY Y bl off (cs.set n y)
 | [],_,_,_,h=>by simp at h
 | c::cs,off,0,h,hx=>by
  simp only[List.getElem?_cons_zero,Option.some.injEq] at hx;subst hx;obtain⟨⟨v,h1,h2⟩,h3⟩:=h;refine⟨⟨v,by rw[hw];exact h1,hxy v h2⟩,?_⟩
  clear h1 h2;have go:∀{cs:List CV} {off:Nat},cY X bl off cs->cY Y bl off cs:=by
   intro cs
   induction cs with
   | nil=>intro off _;exact True.intro
   | cons c cs ih =>
    rintro off ⟨⟨v,h1,h2⟩,h3⟩;exact⟨⟨v,by rw[hw];exact h1,hc _ _ h2⟩,ih h3⟩
  exact go h3
 | c::cs,off,n+1,h,hx=>by
  obtain⟨⟨v,h1,h2⟩,h3⟩:=h;exact⟨⟨v,by rw[hw];exact h1,hc _ _ h2⟩,FM hw hc hxy h3 (by simpa using hx)⟩
theorem zAZ{n0:Nat}{s:DS}(id n k:Nat){cells:List CV}(hd:s.h[id]?=some (.box cells))(hn:cells[n]?=some (.p .nil))(hid:n0<=id):
  KQ n0 s ⟨s.n,s.t,s.h.set id (.box (cells.set n (.own s.h.length 0 0)))++[.arr k [] false]⟩:=by
 intro X0 X a hn0 hh hi hs ht;obtain⟨h1,h2⟩:=virt hi k;rw[<- hh] at hd;have hlt:=(List.getElem?_eq_some_iff.1 hd).1;have hd':(X.virt k).h[id]?=some (.box cells):=by
  show (X.h++_)[id]? = _;rw[List.getElem?_append_left hlt];exact hd
 obtain⟨g,arr,el,fz,q1,q2,q3,q4,q5⟩:=h2.blk id _ hd';have htt:Touched (X.virt k).w (X.virt k).w g.1:=⟨rfl,rfl,sH.rfl',rfl,λ_ _=>rfl,.inl ⟨arr,el,fz,arr,el,fz,q2,q2,rfl⟩⟩;have st:=Step.put h2 hd' rfl rfl q1 htt (d:=.box (cells.set n (.own X.h.length 0 0))) True.intro rfl
 have hrel:eC ((X.virt k).put (X.virt k).w id (.box (cells.set n (.own X.h.length 0 0)))) id (.box (cells.set n (.own X.h.length 0 0))):=by
  refine⟨g,arr,el,fz,q1,q2,by simpa using q3,q4,?_⟩
  obtain ⟨g',arr',el',fz',r1,r2,r3,r4,r5⟩:=hi.blk id _ hd;have hg:(X.virt k).G id=X.G id:=by
   show (if id=X.h.length then none else X.G id)=X.G id
   rw[if_neg (by omega)]
  rw[hg,r1] at q1;cases q1;refine FM (X:=X) (Y:=((X.virt k).put (X.virt k).w id (.box (cells.set n (.own X.h.length 0 0))))) (y:=.own X.h.length 0 0) rfl (λc v hc=>?_) (λv hv=>?_) r5 hn
  .exact bA.step st (bA.step h1 (qZ (x:=c) hc))
  .exact bA.step st (qZ (x:=.own X.h.length 0 0) (iY hv))
 have hi2:=HInv.put h2 hd' rfl rfl q1 htt (d:=.box (cells.set n (.own X.h.length 0 0))) True.intro rfl hrel
 refine⟨((X.virt k).put (X.virt k).w id (.box (cells.set n (.own X.h.length 0 0)))),rfl,?_,hi2,(hs.trans hi h1).trans h2 st,ht.size,λj=>?_,ht.defs⟩
 .show (X.h++[DB.arr k [] false]).set id _=_
  rw[List.set_append_left _ _ hlt,hh]
 .exact bA.step st ((ht.rel j).step h1)
end Go.Dm
end
