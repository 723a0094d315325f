/- Part 30 of the proof of roomStays_card, set without needless blanks. No condition. -/
import Derived.Test.YtlbfnbldeefgmaaGreatDoorT28
import Derived.Ground.SlsfProg
import Derived.Shelf.SlSortCmp.WholeK
import Derived.Shelf.SlSortCmp.NoneTotal
set_option linter.all false
set_option maxRecDepth 100000
set_option maxHeartbeats 16000000
section
namespace Go.Proofs.YtlbfnbldeefgmaaGreatDoor
open Go Go.Dm Go.Proofs Go.Proofs.Tryz
theorem AD(t:List It)(i:Nat)(p:List UInt8)(k m:Int)(tt:Nat)(d:List UInt8):fZ i [.s p,.i .i64 k,.i .i64 m,.f tt,.sl 1 (bJ d)] (aQ t)=aQ (t.take i++⟨p,⟨k,m,tt,d⟩⟩::t.drop i):=by
 simp[fZ,aQ,It.cs,List.map_take,List.map_drop]
theorem zPD{t:List It}{p:List UInt8}{k m:Int}{tt:Nat}{d:List UInt8}(h:OkT t)(hp:p.length<=1000000000)(hd:d.length<=140737488355328)(htt:tt<18446744073709551616):
  aA prog 293 [.c (.p (.sl 5 (aQ t))),.c (.p (.s p)),.agg (ndc k m tt d)] [] λr h =>
   r=.tup [.c (.p (.sl 5 (aQ (wR t p ⟨k,m,tt,d⟩).1))),.c (.p (.i .i64 (wR t p ⟨k,m,tt,d⟩).2))]/\h=[]:=by
 have htl:=h.len;have hdl:∀x∈t,x.n.d.length<=140737488355328:=λx hx=>Nat.le_trans (h.dlen x hx) (by decide);have hdir:=eQ (t:=t) (p:=aM p) (by omega) h.srt;have hpath:=fR hp;have hnode:=dZ (k:=k) (m:=m) (d:=d) htt;refine aI ?_;unfold wR;cases q0:(p == [])
 case true =>
  refine eT func293 λX0 hX=>?_;simp only[f293,go_sem]
  repeat' (first|exact⟨⟩|refine sp ?_)
  all_goals simp
 cases q1:cI p
 case false =>
  rw[q1] at hpath;refine eT func293 λX0 hX=>?_;simp only[f293,go_sem]
  repeat' (first|exact⟨⟩|refine sq ?_|refine uF (hpath) ?_)
  all_goals simp
 cases q2:aP ⟨k,m,tt,d⟩
 case false =>
  rw[q1] at hpath;rw[q2] at hnode;refine eT func293 λX0 hX=>?_;simp only[f293,go_sem]
  repeat' (first|exact⟨⟩|refine sq ?_|refine uF (hpath) ?_|refine uF (hnode) ?_)
  all_goals simp
 cases q3:aX t (aM p)
 case false =>
  rw[q1] at hpath;rw[q2] at hnode;rw[q3] at hdir;refine eT func293 λX0 hX=>?_;simp only[f293,go_sem]
  repeat' (first|exact⟨⟩|refine sq ?_|refine uF (hpath) ?_|refine uF (hnode) ?_|refine uF (dV hp) ?_|refine uF (hdir) ?_)
  all_goals simp
 rw [q1] at hpath;rw[q2] at hnode;rw[q3] at hdir;have e0:(false || !true || !true)=false:=rfl;rw[e0,if_neg (by decide),if_neg (by decide)];clear e0 q1 q2 q3;have hcp:=qW (k:=k) (m:=m) (t:=tt) (d:=d) hd;have hgo:(t.filter λx=>!goF p false x)=cB t p:=by
  unfold cB
  congr 1
  funext x
  simp[goF]
 have hub:=h.toOkT0.filter (λx=>!aJ p x.p);change OkT0 (cB t p) at hub;cases q4:(k != 2)
 .simp only[Bool.false_eq_true,if_false];have hs:=h.srt;have hle0:t.length<=(aQ t).length:=Nat.le_of_eq (cS t).symm;have hes0:(aQ t).take t.length=aQ t:=List.take_of_length_le (Nat.le_of_eq (cS t));have hsl:=yJ t p ⟨k,m,tt,d⟩;refine eT func293 λX0 hX=>?_;simp only[f293,go_sem]
  repeat' (first|exact⟨⟩|refine sq ?_|refine uF (hpath) ?_|refine uF (hnode) ?_|refine uF (dV hp) ?_|refine uF (hdir) ?_|refine zC (by omega) hdl ?_|refine zD5 (i:=1) (t:=t) rfl hes0 (by omega) hs ?_)
  intro j hj;unfold nL;have hj1:=hj.1;have hat:At t p j:=hj;cases hf:gP t p j
  .have hnew:=KK (n:=⟨k,m,tt,d⟩) hs hat (λx hx=>by unfold gP at hf;rw[hx] at hf;exact hf)
   rw [hnew];have hln:(t.take j++(⟨p,⟨k,m,tt,d⟩⟩:It)::t.drop j).length=t.length+1:=by
    rw[List.length_append,List.length_cons,List.length_take,List.length_drop];omega
   rw[hln]
   repeat' (first|exact⟨⟩|refine sp ?_|refine uN (hcp) ?_|refine insert_k (x:=[.s p,.i .i64 k,.i .i64 m,.f tt,.sl 1 (bJ d)]) rfl rfl (by decide) hle0 hj1 (by omega) ?_|refine aK (λ_=>?_) (λ_=>?_)|refine ai ?_)
   all_goals first|exact .inr ⟨_,rfl⟩|(rw[AD,List.take_of_length_le (by rw[cS,hln];exact Nat.le_refl _)])
  .unfold gP at hf;have hlt:j<t.length:=by
    rcases Nat.lt_or_ge j t.length with h|h
    .exact h
    .rw[List.getElem?_eq_none h] at hf;cases hf
   have hx:t[j]?=some t[j]:=List.getElem?_eq_getElem hlt;rw[hx] at hf;have hset:=GB (n:=⟨k,m,tt,d⟩) hs hat hx hf;rw[hset];have hln:(t.set j ⟨p,⟨k,m,tt,d⟩⟩).length=t.length:=List.length_set
   rw[hln];have hjl:(j:Int)<(t.length:Int):=by omega
   have hgj:=cZ (t:=t) (k:=j) hx;have hse:=tE t j ⟨p,⟨k,m,tt,d⟩⟩;clear hx hf hset hat hj;generalize t[j]=y at hgj
   repeat' (first|exact⟨⟩|refine sp ?_|refine uN (hcp) ?_|refine aK (λ_=>?_) (λ_=>?_)|refine ai ?_)
   all_goals first|exact .inr ⟨_,rfl⟩|(rw[List.take_of_length_le (by rw[hln];exact Nat.le_refl _)])
 .simp only[if_true];have hs:=hub.srt;have hul:=JR t p;have hsl:=yJ (cB t p) p ⟨k,m,tt,d⟩;have hw:∀(h:aB) (K:DV->aB->Prop),(∀es:List (List PV),es.take (cB t p).length=aQ (cB t p)->K (.c (.own (2+h.length) 0 (cB t p).length)) (h++[.box [.p (.s p)],.box [.p (.b false)],.arr 5 es false])) ->
    aA prog 248 [.c (.p (.sl 5 (aQ t))),.c (.p (.s p)),.c (.p (.b false))] h K:=λh K hk=>by
   refine zGI hp (by omega) hdl ?_;rw[hgo];exact hk
  refine eT func293 λX0 hX=>?_;simp only[f293,go_sem]
  repeat' (first|exact⟨⟩|refine sq ?_|refine uF (hpath) ?_|refine uF (hnode) ?_|refine uF (dV hp) ?_|refine uF (hdir) ?_|refine zC (by omega) hdl ?_|refine hw _ _ ?_)
  intro es hes;clear hw hgo;generalize cB t p=u at hub hs hul hsl hes ⊢;have hle0:u.length<=es.length:=by
   have:=congrArg List.length hes;rw[List.length_take,cS] at this;omega
  repeat' (first|exact⟨⟩|refine sp ?_|refine zD5 (i:=4) (t:=u) rfl hes (by omega) hs ?_)
  intro j hj;unfold nL;have hj1:=hj.1;have hat:At u p j:=hj;cases hf:gP u p j
  .have hnew:=KK (n:=⟨k,m,tt,d⟩) hs hat (λx hx=>by unfold gP at hf;rw[hx] at hf;exact hf)
   rw [hnew];have hln:(u.take j++(⟨p,⟨k,m,tt,d⟩⟩:It)::u.drop j).length=u.length+1:=by
    rw[List.length_append,List.length_cons,List.length_take,List.length_drop];omega
   rw[hln]
   repeat' (first|exact⟨⟩|refine sp ?_|refine uN (hcp) ?_|refine insert_k (x:=[.s p,.i .i64 k,.i .i64 m,.f tt,.sl 1 (bJ d)]) rfl rfl (by decide) hle0 hj1 (by omega) ?_|refine aK (λ_=>?_) (λ_=>?_)|refine ai ?_)
   all_goals first|exact .inr ⟨_,rfl⟩|(rw[AD,List.take_of_length_le (by rw[cS,hln];exact Nat.le_refl _)])
  .unfold gP at hf;have hlt:j<u.length:=by
    rcases Nat.lt_or_ge j u.length with h|h
    .exact h
    .rw[List.getElem?_eq_none h] at hf;cases hf
   have hx:u[j]?=some u[j]:=List.getElem?_eq_getElem hlt;rw[hx] at hf;have hset:=GB (n:=⟨k,m,tt,d⟩) hs hat hx hf;rw[hset];have hln:(u.set j ⟨p,⟨k,m,tt,d⟩⟩).length=u.length:=List.length_set
   rw[hln];have hjl:(j:Int)<(u.length:Int):=by omega
   have hgj:es.getD j []=u[j].cs:=by
    have h1:=cZ (t:=u) (k:=j) hx;rw[<- hes,List.getD_eq_getElem?_getD,List.getElem?_take,if_pos hlt,<- List.getD_eq_getElem?_getD] at h1;exact h1
   have hse:(es.set j [.s p,.i .i64 k,.i .i64 m,.f tt,.sl 1 (bJ d)]).take u.length=aQ (u.set j ⟨p,⟨k,m,tt,d⟩⟩):=by
    rw[List.take_set,hes];exact tE u j ⟨p,⟨k,m,tt,d⟩⟩
   have hje:(j:Int)<(es.length:Int):=by omega
   clear hx hf hset hat hj;generalize u[j]=y at hgj;unfold It.cs at hgj
   repeat' (first|exact⟨⟩|refine sp ?_|refine uN (hcp) ?_|refine aK (λ_=>?_) (λ_=>?_)|refine ai ?_)
   all_goals first|exact .inr ⟨_,rfl⟩|rw[hse]
end Go.Proofs.YtlbfnbldeefgmaaGreatDoor
end
section
namespace Go.Proofs
open Go.Shelf Go.Proofs.Tryz
theorem qG{α:Type}{p:Option α}{x y:α}(h:p=some x)(e:x=y:=by kernel_rfl):p=some y:=h.trans (congrArg some e)
def Tryz.laysSlF06_f155_ren:Go.Shelf.Ren:=⟨λ| 6=>155 | 15=>219 | 14=>218 | 28=>271 | 29=>272 | 20=>263 | 21=>264 | 22=>265 | 23=>266 | 24=>267 | 25=>268 | 26=>269 | 27=>270 | 46=>319 | 47=>320 | 48=>321 | 49=>322 | 50=>323 | 57=>372|n=>n,λ| 22=>40 | 24=>130 | 25=>218 | 3=>3 | 39=>273 | 0=>0 | 53=>301 | 55=>185 | 4=>4 | 46=>295 | 45=>294 | 50=>167 | 5=>5 | 9=>9 | 66=>332 | 70=>336 | 76=>367 | 77=>321|n=>n,fun|n=>n⟩
theorem Tryz.laysSlF06_f155:Go.Proofs.SlLaysF0.n6 Tryz.prog Tryz.laysSlF06_f155_ren:=⟨by kernel_rfl,⟨Tryz.f155.name,by decide,qG func155⟩,⟨Tryz.f218.name,by decide,qG func218⟩,qG func219,⟨Tryz.f263.name,by decide,qG func263⟩,⟨Tryz.f264.name,by decide,qG func264⟩,⟨Tryz.f265.name,by decide,qG func265⟩,⟨Tryz.f266.name,by decide,qG func266⟩,⟨Tryz.f267.name,by decide,qG func267⟩,⟨Tryz.f268.name,by decide,qG func268⟩,⟨Tryz.f269.name,by decide,qG func269⟩,⟨Tryz.f270.name,by decide,qG func270⟩,qG func271,qG func272,⟨Tryz.f319.name,by decide,qG func319⟩,qG func320,qG func321,⟨Tryz.f322.name,by decide,qG func322⟩,⟨Tryz.f323.name,by decide,qG func323⟩,⟨Tryz.f372.name,by decide,qG func372⟩,underlying0,isAgg0,sizeOf0,zeroValue0,underlying3,isAgg3,sizeOf3,zeroValue3,underlying4,isAgg4,sizeOf4,zeroValue4,underlying5,isAgg5,sizeOf5,zeroValue5,underlying9,isAgg9,sizeOf9,zeroValue9,underlying40,isAgg40,sizeOf40,zeroValue40,underlying218,isAgg218,sizeOf218,zeroValue218,underlying273,isAgg273,sizeOf273,zeroValue273,underlying294,isAgg294,sizeOf294,zeroValue294,underlying295,isAgg295,sizeOf295,zeroValue295,underlying167,isAgg167,sizeOf167,zeroValue167,underlying301,isAgg301,sizeOf301,zeroValue301,underlying185,isAgg185,sizeOf185,zeroValue185,underlying332,isAgg332,sizeOf332,zeroValue332,underlying336,isAgg336,sizeOf336,zeroValue336,underlying367,isAgg367,sizeOf367,zeroValue367,underlying321,isAgg321,sizeOf321,zeroValue321⟩
def Tryz.laysSlF06_f192_ren:Go.Shelf.Ren:=⟨λ| 6=>192 | 15=>219 | 14=>251 | 28=>271 | 29=>272 | 20=>306 | 21=>307 | 22=>308 | 23=>309 | 24=>310 | 25=>311 | 26=>312 | 27=>313 | 46=>359 | 47=>320 | 48=>321 | 49=>360 | 50=>361 | 57=>390|n=>n,λ| 22=>67 | 24=>75 | 25=>247 | 3=>3 | 39=>273 | 0=>0 | 53=>301 | 55=>185 | 4=>4 | 46=>295 | 45=>294 | 50=>167 | 5=>5 | 9=>9 | 66=>332 | 70=>336 | 76=>367 | 77=>321|n=>n,fun|n=>n⟩
theorem Tryz.laysSlF06_f192:Go.Proofs.SlLaysF0.n6 Tryz.prog Tryz.laysSlF06_f192_ren:=⟨by kernel_rfl,⟨Tryz.f192.name,by decide,qG func192⟩,⟨Tryz.f251.name,by decide,qG func251⟩,qG func219,⟨Tryz.f306.name,by decide,qG func306⟩,⟨Tryz.f307.name,by decide,qG func307⟩,⟨Tryz.f308.name,by decide,qG func308⟩,⟨Tryz.f309.name,by decide,qG func309⟩,⟨Tryz.f310.name,by decide,qG func310⟩,⟨Tryz.f311.name,by decide,qG func311⟩,⟨Tryz.f312.name,by decide,qG func312⟩,⟨Tryz.f313.name,by decide,qG func313⟩,qG func271,qG func272,⟨Tryz.f359.name,by decide,qG func359⟩,qG func320,qG func321,⟨Tryz.f360.name,by decide,qG func360⟩,⟨Tryz.f361.name,by decide,qG func361⟩,⟨Tryz.f390.name,by decide,qG func390⟩,underlying0,isAgg0,sizeOf0,zeroValue0,underlying3,isAgg3,sizeOf3,zeroValue3,underlying4,isAgg4,sizeOf4,zeroValue4,underlying5,isAgg5,sizeOf5,zeroValue5,underlying9,isAgg9,sizeOf9,zeroValue9,underlying67,isAgg67,sizeOf67,zeroValue67,underlying247,isAgg247,sizeOf247,zeroValue247,underlying273,isAgg273,sizeOf273,zeroValue273,underlying294,isAgg294,sizeOf294,zeroValue294,underlying295,isAgg295,sizeOf295,zeroValue295,underlying167,isAgg167,sizeOf167,zeroValue167,underlying301,isAgg301,sizeOf301,zeroValue301,underlying185,isAgg185,sizeOf185,zeroValue185,underlying332,isAgg332,sizeOf332,zeroValue332,underlying336,isAgg336,sizeOf336,zeroValue336,underlying367,isAgg367,sizeOf367,zeroValue367,underlying321,isAgg321,sizeOf321,zeroValue321⟩
def Tryz.laysSlF06_f337_ren:Go.Shelf.Ren:=⟨λ| 6=>337 | 15=>219 | 14=>380 | 28=>271 | 29=>272 | 20=>395 | 21=>396 | 22=>397 | 23=>398 | 24=>399 | 25=>400 | 26=>401 | 27=>402 | 46=>409 | 47=>320 | 48=>321 | 49=>410 | 50=>411 | 57=>414|n=>n,λ| 22=>54 | 24=>258 | 25=>348 | 3=>3 | 39=>273 | 0=>0 | 53=>301 | 55=>185 | 4=>4 | 46=>295 | 45=>294 | 50=>167 | 5=>5 | 9=>9 | 66=>332 | 70=>336 | 76=>367 | 77=>321|n=>n,fun|n=>n⟩
theorem Tryz.laysSlF06_f337:Go.Proofs.SlLaysF0.n6 Tryz.prog Tryz.laysSlF06_f337_ren:=⟨by kernel_rfl,⟨Tryz.f337.name,by decide,qG func337⟩,⟨Tryz.f380.name,by decide,qG func380⟩,qG func219,⟨Tryz.f395.name,by decide,qG func395⟩,⟨Tryz.f396.name,by decide,qG func396⟩,⟨Tryz.f397.name,by decide,qG func397⟩,⟨Tryz.f398.name,by decide,qG func398⟩,⟨Tryz.f399.name,by decide,qG func399⟩,⟨Tryz.f400.name,by decide,qG func400⟩,⟨Tryz.f401.name,by decide,qG func401⟩,⟨Tryz.f402.name,by decide,qG func402⟩,qG func271,qG func272,⟨Tryz.f409.name,by decide,qG func409⟩,qG func320,qG func321,⟨Tryz.f410.name,by decide,qG func410⟩,⟨Tryz.f411.name,by decide,qG func411⟩,⟨Tryz.f414.name,by decide,qG func414⟩,underlying0,isAgg0,sizeOf0,zeroValue0,underlying3,isAgg3,sizeOf3,zeroValue3,underlying4,isAgg4,sizeOf4,zeroValue4,underlying5,isAgg5,sizeOf5,zeroValue5,underlying9,isAgg9,sizeOf9,zeroValue9,underlying54,isAgg54,sizeOf54,zeroValue54,underlying348,isAgg348,sizeOf348,zeroValue348,underlying273,isAgg273,sizeOf273,zeroValue273,underlying294,isAgg294,sizeOf294,zeroValue294,underlying295,isAgg295,sizeOf295,zeroValue295,underlying167,isAgg167,sizeOf167,zeroValue167,underlying301,isAgg301,sizeOf301,zeroValue301,underlying185,isAgg185,sizeOf185,zeroValue185,underlying332,isAgg332,sizeOf332,zeroValue332,underlying336,isAgg336,sizeOf336,zeroValue336,underlying367,isAgg367,sizeOf367,zeroValue367,underlying321,isAgg321,sizeOf321,zeroValue321⟩
open Go.RowKit Go.Lib Go.Sort in
theorem Tryz.slices_SortFunc_f155{α:Type}[Inhabited α](k:Nat)(aE:∀w,(isAgg 130).run Tryz.prog w=.ok true w)(zE:∀w,(Go.sizeOf 130).run Tryz.prog w=.ok k w)(enc:α->List Value)(hk:∀x,(enc x).length=k)(h1:∀x,∀v∈enc x,v.oneCell'=true)(cf:α->α->Int)(hO:SWO (ltOf cf))(g:Nat)(cb:Array Value)(blk off cap:Nat)(d:Array α)(w:World)(eg:∀args w,(callFunc g args).run Tryz.prog w=.ok (.enter g args) w)(hcmp:CmpLays Tryz.prog g cb enc k cf blk off d.size w)(hH:HoldsK enc k w blk off d)(hblk:blk<w.heap.size)(hsz:d.size<4611686018427387904):
  Calls Tryz.prog 155 #[.slice (some ⟨blk,off,none⟩) d.size cap,.func (.func g) #[] cb] w λe w' =>
   e=.returned (.tuple #[])/\∃d' n os,PermIn 0 d.size d d'/\SortedIn (ltOf cf) 0 d.size d'/\w'=sortWorldK enc k w blk off n d' os:=AnyQ.slices_SortFunc Tryz.laysSlF06_f155 k aE zE enc hk h1 cf hO g cb blk off cap d w eg hcmp hH hblk hsz
open Go.RowKit Go.Lib Go.Sort in
theorem Tryz.slices_SortFunc_f192{α:Type}[Inhabited α](k:Nat)(aE:∀w,(isAgg 75).run Tryz.prog w=.ok true w)(zE:∀w,(Go.sizeOf 75).run Tryz.prog w=.ok k w)(enc:α->List Value)(hk:∀x,(enc x).length=k)(h1:∀x,∀v∈enc x,v.oneCell'=true)(cf:α->α->Int)(hO:SWO (ltOf cf))(g:Nat)(cb:Array Value)(blk off cap:Nat)(d:Array α)(w:World)(eg:∀args w,(callFunc g args).run Tryz.prog w=.ok (.enter g args) w)(hcmp:CmpLays Tryz.prog g cb enc k cf blk off d.size w)(hH:HoldsK enc k w blk off d)(hblk:blk<w.heap.size)(hsz:d.size<4611686018427387904):
  Calls Tryz.prog 192 #[.slice (some ⟨blk,off,none⟩) d.size cap,.func (.func g) #[] cb] w λe w' =>
   e=.returned (.tuple #[])/\∃d' n os,PermIn 0 d.size d d'/\SortedIn (ltOf cf) 0 d.size d'/\w'=sortWorldK enc k w blk off n d' os:=AnyQ.slices_SortFunc Tryz.laysSlF06_f192 k aE zE enc hk h1 cf hO g cb blk off cap d w eg hcmp hH hblk hsz
open Go.RowKit Go.Lib Go.Sort in
theorem Tryz.slices_SortFunc_f337{α:Type}[Inhabited α](k:Nat)(aE:∀w,(isAgg 258).run Tryz.prog w=.ok true w)(zE:∀w,(Go.sizeOf 258).run Tryz.prog w=.ok k w)(enc:α->List Value)(hk:∀x,(enc x).length=k)(h1:∀x,∀v∈enc x,v.oneCell'=true)(cf:α->α->Int)(hO:SWO (ltOf cf))(g:Nat)(cb:Array Value)(blk off cap:Nat)(d:Array α)(w:World)(eg:∀args w,(callFunc g args).run Tryz.prog w=.ok (.enter g args) w)(hcmp:CmpLays Tryz.prog g cb enc k cf blk off d.size w)(hH:HoldsK enc k w blk off d)(hblk:blk<w.heap.size)(hsz:d.size<4611686018427387904):
  Calls Tryz.prog 337 #[.slice (some ⟨blk,off,none⟩) d.size cap,.func (.func g) #[] cb] w λe w' =>
   e=.returned (.tuple #[])/\∃d' n os,PermIn 0 d.size d d'/\SortedIn (ltOf cf) 0 d.size d'/\w'=sortWorldK enc k w blk off n d' os:=AnyQ.slices_SortFunc Tryz.laysSlF06_f337 k aE zE enc hk h1 cf hO g cb blk off cap d w eg hcmp hH hblk hsz
open Go.RowKit Go.Lib Go.Sort in
theorem Tryz.slices_SortFunc_none_f155{α:Type}[Inhabited α](p:Option Addr)(cap:Nat)(fv:Value)(w:World):
  Calls Tryz.prog 155 #[.slice p 0 cap,fv] w λe w'=>e=.returned (.tuple #[])/\w'=w:=AnyF.slices_SortFunc_none Tryz.laysSlF06_f155 p cap fv w
open Go.RowKit Go.Lib Go.Sort in
theorem Tryz.slices_SortFunc_none_f192{α:Type}[Inhabited α](p:Option Addr)(cap:Nat)(fv:Value)(w:World):
  Calls Tryz.prog 192 #[.slice p 0 cap,fv] w λe w'=>e=.returned (.tuple #[])/\w'=w:=AnyF.slices_SortFunc_none Tryz.laysSlF06_f192 p cap fv w
open Go.RowKit Go.Lib Go.Sort in
theorem Tryz.slices_SortFunc_none_f337{α:Type}[Inhabited α](p:Option Addr)(cap:Nat)(fv:Value)(w:World):
  Calls Tryz.prog 337 #[.slice p 0 cap,fv] w λe w'=>e=.returned (.tuple #[])/\w'=w:=AnyF.slices_SortFunc_none Tryz.laysSlF06_f337 p cap fv w
end Go.Proofs
end
section
namespace Go.Proofs.YtlbfnbldeefgmaaGreatDoor
open Go Go.Dm Go.Proofs Go.Proofs.Tryz
theorem MZ{t:List It}{p:List UInt8}{i:Nat}(hs:Srt t)(h:GR t p i):gP t p i=(aN t p).isSome:=by
 cases hf:gP t p i
 .rw[TW hs h hf];rfl
 .unfold gP at hf;cases hx:t[i]? with
  | none=>rw[hx] at hf;cases hf
  | some x=>rw[hx] at hf;rw[HU hs hx hf];rfl
def zIS(t:List It)(a b:List UInt8):Int :=
 if a == [] || b == [] || !cI a || !cI b then 1 else if !(aN t a).isSome then 6 else if aJ a b then 18 else if (aN t b).isSome then 7 else if !aX t (aM b) then 9 else 0
theorem zES{t:List It}{a b:List UInt8}(ht:t.length<=1000000)(hs:Srt t)(ha:a.length<=1000000000)(hb:b.length<=1000000000):
  aA prog 295 [.c (.p (.sl 5 (aQ t))),.c (.p (.s a)),.c (.p (.s b))] [] λr h=>r=.c (.p (.i .i64 (zIS t a b)))/\h=[]:=by
 have hdir:=eQ (t:=t) (p:=aM b) ht hs;have hpa:=fR ha;have hpb:=fR hb;unfold zIS;generalize cI a=pa at *;generalize cI b=pb at *;generalize aX t (aM b)=db at *;refine eT func295 λX0 hX=>?_;simp only[f295,go_sem]
 repeat' (first|exact⟨⟩|refine sp ?_)
 refine zGu (MV ht hs) rfl (λ_ _=>rfl) λi hi=>?_;unfold nL;rw[MZ hs hi];generalize (aN t a).isSome=ga
 repeat' (first|exact⟨⟩|refine sp ?_)
 refine zGu (MV ht hs) rfl (λ_ _=>rfl) λj hj=>?_;unfold nL;rw[MZ hs hj];generalize (aN t b).isSome=gb;cases pa<;>cases pb<;>cases ga<;>cases gb<;>cases db
 all_goals repeat' (first|exact⟨⟩|refine sq ?_|refine uF (hpa) ?_|refine uF (hpb) ?_|refine uF (cU ha) ?_|refine uF (dV hb) ?_|refine uF (hdir) ?_|with_reducible refine aK (λ_=>?_) (λ_=>?_)|with_reducible refine bM (λ_=>?_) (λ_=>?_))
 all_goals simp_all
theorem zL5{q q':List UInt8}{k k' m m':Int}{t t':Nat}{d d':List UInt8}:
  aA prog 296 [.agg [.p (.s q),.p (.i .i64 k),.p (.i .i64 m),.p (.f t),.p (.sl 1 (bJ d))],.agg [.p (.s q'),.p (.i .i64 k'),.p (.i .i64 m'),.p (.f t'),.p (.sl 1 (bJ d'))]] [] λr h=>r=.c (.p (.i .i64 (CT q q')))/\h=[]:=by
 refine eT func296 λX0 hX=>?_;simp only[f296,go_sem]
 repeat' (first|exact⟨⟩|refine sp ?_|refine uF (lU) ?_)
theorem zMw{h:aB}{id:Nat}{l:List It}(hu:∀x∈l,∀y∈l,x.p=y.p->x=y)(hid:h[id]?=some (.arr 5 (aQ l) false))(hsz:l.length<4611686018427387904):
  aA prog 155 [.c (.own id 0 l.length),.c (.clo 296 [])] h λd h'=>d=.tup []/\h'=h.set id (.arr 5 (aQ (hD l)) false):=by
 have:=lP (P:=prog) (f:=155) (g:=296) 5 (by decide) cfI XC
  (enters Tryz.func155 rfl rfl) (enters_of func296 (by kernel_rfl) rfl)
  (λenc hk h1 c hO blk off cap d w hcmp hH hblk hsz=>Tryz.slices_SortFunc_f155 5 Tryz.isAgg130 Tryz.sizeOf130 enc hk h1 c hO 296 #[] blk off cap d w (enters_of func296 (by kernel_rfl) rfl) hcmp hH hblk hsz)
  (λp cap fv w=>Tryz.slices_SortFunc_none_f155 (α:=Nat) p cap fv w)
  (h:=h) (i0:=id) (es:=aQ l) (λx hx y hy=>by
   obtain⟨a,_,rfl⟩:=List.mem_map.1 hx;obtain⟨b,_,rfl⟩:=List.mem_map.1 hy;exact zL5) (LG hu) hid (by rw[cS];exact hsz)
 rw[MP,cS] at this;exact this
theorem zMx{h:aB}{id:Nat}{l:List It}{K:DV->aB->Prop}(hu:∀x∈l,∀y∈l,x.p=y.p->x=y)(hsz:l.length<4611686018427387904)(hid:h[id]?=some (.arr 5 (aQ l) false))(hk:K (.tup []) (h.set id (.arr 5 (aQ (hD l)) false))):
  aA prog 155 [.c (.own id 0 l.length),.c (.clo 296 [])] h K :=
 aA.mono (zMw hu hid hsz) (by rintro _ _ ⟨rfl,rfl⟩;exact hk)
def SF(a b:List UInt8)(t:List It)(k:Nat):List It:=(t.take k).map (sJ a b)++t.drop k
theorem zIW(a b:List UInt8)(t:List It)(k:Nat):(SF a b t k).length=t.length:=by
 simp only[SF,List.length_append,List.length_map,List.length_take,List.length_drop];omega
theorem zEY{a b:List UInt8}{t:List It}{k:Nat}{x:It}(hx:t[k]?=some x):(SF a b t k)[k]?=some x:=by
 have hk:=(List.getElem?_eq_some_iff.1 hx).1;have hl:((t.take k).map (sJ a b)).length=k:=by rw[List.length_map,List.length_take];omega
 unfold SF;rw[List.getElem?_append_right (by omega),hl,Nat.sub_self,List.getElem?_drop,Nat.add_zero];exact hx
theorem zIX{a b:List UInt8}{t:List It}{k:Nat}{x:It}(hx:t[k]?=some x):(SF a b t k).set k (sJ a b x)=SF a b t (k+1):=by
 have hk:=(List.getElem?_eq_some_iff.1 hx).1;have hl:((t.take k).map (sJ a b)).length=k:=by rw[List.length_map,List.length_take];omega
 unfold SF;rw[List.set_append_right _ _ (by omega),hl,Nat.sub_self,drop_at hx,List.set_cons_zero,List.take_add_one,hx,List.map_append];simp
theorem zF5{l:List (List PV)}{k:Nat}{e:List PV}(h:k<l.length):(l.set k e).getD k []=e:=by
 rw[List.getD_eq_getElem?_getD,List.getElem?_set_self h];rfl
theorem zOc{t:List It}{a b:List UInt8}(h:OkT t)(ha:a.length<=1000000000)(hb:b.length<=1000000000):
  aA prog 246 [.c (.p (.sl 5 (aQ t))),.c (.p (.s a)),.c (.p (.s b))] [] λr h =>
   r=.tup [.c (.p (.sl 5 (aQ (pE t a b).1))),.c (.p (.i .i64 (pE t a b).2))]/\h=[]:=by
 have htl:=h.len;have hdl:∀x∈t,x.n.d.length<=140737488355328:=λx hx=>Nat.le_trans (h.dlen x hx) (by decide);have hmay:=zES (t:=t) (a:=a) (b:=b) (by omega) h.srt ha hb;refine aI ?_;by_cases h0:zIS t a b=0
 .have hpre:a≠[]/\b≠[]/\cI b=true/\(aN t b).isSome=false/\pE t a b=fT a b (cA t a) t:=by
   unfold zIS at h0;unfold pE;split at h0
   .cases h0
   .rename_i h1;rw[if_neg h1];split at h0
    .cases h0
    .rename_i h2;rw[if_neg h2];split at h0
     .cases h0
     .rename_i h3;rw[if_neg h3];split at h0
      .cases h0
      .rename_i h4;rw[if_neg h4];split at h0
       .cases h0
       .rename_i h5;rw[if_neg h5];simp only[Bool.or_eq_true,not_or,beq_iff_eq,Bool.not_eq_true',Bool.not_eq_false] at h1;exact⟨h1.1.1.1,h1.1.1.2,h1.2,by simpa using h4,rfl⟩
  obtain⟨p1,p2,p3,p4,p5⟩:=hpre;rw[p5,zL6 h p1 p2 p3 p4];have hnd:=AP h p1 p2 p4;rw[h0] at hmay;have hpl:=h.plen;have hle0:t.length<=(aQ t).length:=Nat.le_of_eq (cS t).symm;clear p5 p2 p3 p4 h0;have hR:∃R,(if (KX t a b).all fB then (hD (KX t a b),0) else (([],12):List It × Int))=R:=⟨_,rfl⟩
  obtain⟨R,hR⟩:=hR;rw[hR];have hRP:=PLift.up hR;clear hR;refine eT func246 λX0 hX=>?_;simp only[f246,go_sem]
  repeat' (first|exact⟨⟩|refine sp ?_|refine uF (hmay) ?_|refine zC (by omega) hdl ?_)
  refine aY aD aL (α:=Nat) (λk=>⟨60,[(1,.c (.p (.s a))),(2,.c (.p (.s b))),(9,.c (.own 0 0 t.length)),(21,.c (.own 0 0 t.length)),(22,.c (.p (.i .i64 t.length))),(23,.c (.p (.i .i64 k)))],[.arr 5 (aQ (SF a b t k)) false]⟩)
   (λk=>k<=t.length/\((t.take k).map (sJ a b)).all fB=true) (λk=>t.length-k) 0 ⟨Nat.zero_le _,rfl⟩ (.inl (aF (by rw[hX];rfl) rfl rfl wkS)) ?_
  rintro k ⟨hk,hs⟩;by_cases hlt:k<t.length
  .have hx:t[k]?=some t[k]:=List.getElem?_eq_getElem hlt;have hg:=cZ (zEY (a:=a) (b:=b) hx);have hst:=zIX (a:=a) (b:=b) hx;have hml:=zIW a b t k;have h1:decide ((k:Int)<(t.length:Int))=true:=decide_eq_true (by omega);have w1:IntKind.i64.wrap ((k:Int)+1)=k+1:=wrap_i64 (by omega) (by omega);have hxl:=hpl _ (List.getElem_mem hlt);have hnx:((t.take (k+1)).map (sJ a b)).all fB=fB (sJ a b t[k]):=by
    rw[List.take_add_one,hx,List.map_append,List.all_append,hs,Bool.true_and];simp
   have hbad:fB (sJ a b t[k])=false->(KX t a b).all fB=false:=λhb=>by
    rw[Bool.eq_false_iff];intro h2;have:=List.all_eq_true.1 h2 _ (List.mem_map_of_mem (f:=sJ a b) (List.getElem_mem hlt));rw[hb] at this;cases this
   generalize t[k]=x at hx hg hst hxl hnx hbad;cases q1:(x.p==a)<;>cases q2:aJ a x.p
   case false.false =>
    have hmi:sJ a b x=x:=by unfold sJ mvd;rw[q1,q2];rfl
    have hsx:fB x=true:=by
     simp only[fB,Bool.not_eq_true',decide_eq_false_iff_not];omega
    have hx120:decide ((120:Int)<(x.p.length:Int))=false:=by simpa[fB] using hsx
    rw [hmi] at hst hnx;have hst2:SF a b t k=SF a b t (k+1):=by
     rw [<- hst];exact(List.ext_getElem? λj=>by
      rw[List.getElem?_set];split
      .rename_i e;subst e;rw[zEY hx];split
       .rfl
       .rename_i hh;rw[hml] at hh;exact absurd hlt hh
      .rfl)
    have hJ:k+1<=t.length/\((t.take (k+1)).map (sJ a b)).all fB=true:=⟨by omega,by rw[hnx];exact hsx⟩
    have hS:=PLift.up hst2;have hlr:k<(SF a b t k).length:=by omega
    clear hbad hmi hst hnx hx hst2 hml
    repeat' (first|exact⟨⟩|refine sp ?_|refine uF (cU ha) ?_|refine ai ?_)
    exact gZ (k+1) hJ (by omega) (aF rfl (by rw[hS.down];rfl) rfl wkS)
   all_goals
    have hmi:sJ a b x=⟨b++x.p.drop a.length,x.n⟩:=by unfold sJ mvd;rw[q1,q2];rfl
    rw [hmi] at hst hnx hbad;have hla:a.length<=x.p.length:=by
     first|(rw[eq_of_beq q1];exact Nat.le_refl _)|exact eE q2
    cases q3:fB ⟨b++x.p.drop a.length,x.n⟩
   all_goals have hlr:k<(SF a b t k).length:=by omega
   all_goals have hse:=tE (SF a b t k) k ⟨b++x.p.drop a.length,x.n⟩
   all_goals simp only at hse
   all_goals rw[hst] at hse
   all_goals have hS:=PLift.up hse
   all_goals have hlr2:k<(aQ (SF a b t k)).length:=by rw[cS];exact hlr
   all_goals have hdp:b.length+(x.p.drop a.length).length<=9223372036854775807:=by rw[List.length_drop];omega
   all_goals have hki:(k:Int)<(t.length:Int):=by omega
   all_goals have hk0:(0:Int)<=(k:Int):=by omega
   all_goals have hq:decide ((120:Int)<((b.length+(x.p.drop a.length).length:Nat):Int)) = !(fB ⟨b++x.p.drop a.length,x.n⟩):=by unfold fB;rw[Bool.not_not,List.length_append]
   all_goals rw[q3] at hq hnx
   all_goals simp only[Bool.not_true,Bool.not_false] at hq
   case' false.true.false|true.false.false|true.true.false =>
    obtain rfl:(([],12):List It × Int)=R:=by rw[<- hRP.down,hbad q3];rfl
    clear hbad hmi hst hnx hx hml hse
    repeat' (first|simp only[*,go_sem,Nat.reduceLT,Nat.reduceLeDiff,Nat.reduceEqDiff,↓reduceIte,Nat.reduceAdd,zF5 hlr2,List.length_set,List.length_append]|refine uF (cU ha) ?_|refine ai ?_)
   case' false.true.true|true.false.true|true.true.true =>
    have hJ:k+1<=t.length/\((t.take (k+1)).map (sJ a b)).all fB=true:=⟨by omega,hnx⟩
    clear hbad hmi hst hnx hx hml hse
    repeat' (first|simp only[*,go_sem,Nat.reduceLT,Nat.reduceLeDiff,Nat.reduceEqDiff,↓reduceIte,Nat.reduceAdd,zF5 hlr2,List.length_set,List.length_append]|refine uF (cU ha) ?_|refine ai ?_)
   all_goals first|exact .inr ⟨_,rfl⟩|exact gZ (k+1) hJ (by omega) (aF rfl (by rw[<- hS.down];rfl) rfl wkS)
  .have h1:decide ((k:Int)<(t.length:Int))=false:=decide_eq_false (by omega);have hk2:k=t.length:=by omega
   subst hk2;have hmt:SF a b t t.length=KX t a b:=by
    unfold SF KX;rw[List.take_length,List.drop_length,List.append_nil]
   rw [List.take_length] at hs;obtain rfl:(hD (KX t a b),(0:Int))=R:=by
    rw[<- hRP.down];have:(KX t a b).all fB=true:=hs;rw[this];rfl
   rw[hmt];have hml:(KX t a b).length=t.length:=List.length_map _;have hu:=oV hnd;rw[<- hml];have hsl:(KX t a b).length<4611686018427387904:=by omega
   have hml2:=CG (KX t a b);clear hRP hs hnd hpl hmt hlt hml;clear h1;generalize KX t a b=q at hu hsl hml2 ⊢;have h1:decide ((q.length:Int)<(q.length:Int))=false:=decide_eq_false (by omega)
   repeat' (first|simp only[*,go_sem,Nat.reduceLT,Nat.reduceEqDiff,↓reduceIte,List.set_cons_zero]|refine zMx (id:=0) (l:=q) hu hsl rfl ?_)
   all_goals rw[List.take_of_length_le (by rw[hml2];exact Nat.le_refl _)]
 .have hne:(zIS t a b==0)=false:=by simpa using h0
  have hme:pE t a b=([],zIS t a b):=by
   unfold zIS at h0 ⊢;unfold pE;split
   .rfl
   .rename_i h1;rw[if_neg h1] at h0;split
    .rfl
    .rename_i h2;rw[if_neg h2] at h0;split
     .rfl
     .rename_i h3;rw[if_neg h3] at h0;split
      .rfl
      .rename_i h4;rw[if_neg h4] at h0;split
       .rfl
       .rename_i h5;rw[if_neg h5] at h0;exact absurd rfl h0
  rw[hme];have hne2:(zIS t a b != 0)=true:=by rw[bne,hne];rfl
  generalize zIS t a b=e at *;clear hme;refine eT func246 λX0 hX=>?_;simp only[f246,go_sem]
  repeat' (first|exact⟨⟩|refine sp ?_|refine uF (hmay) ?_)
  all_goals exact .inr ⟨_,rfl⟩
end Go.Proofs.YtlbfnbldeefgmaaGreatDoor
end
