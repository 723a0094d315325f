/- Part 48 of the proof of roomAsks_card, set without needless blanks. No condition. -/
import Derived.Test.YtlbfnbldeefgmaaGreatDoorA45
import Derived.Test.YtlbfnbldeefgmaaGreatDoorA46
import Derived.Test.YtlbfnbldeefgmaaGreatDoorA44
set_option linter.all false
section
namespace Go.Dm
open Go
theorem zJL {n0:Nat} {s:DS} (i:Nat) {es es2:List (Int × PV)} (hd:s.h[i]? = some (.mp es)) (hp:es.Perm es2):HJ n0 s ⟨s.n,s.t,s.h.set i (.mp es2)⟩:=by
  intro X0 X a hn hh hi hs ht;rw [← hh] at hd;have hlt:=aM hd;have key:∀ {j:Nat} {db:DB},(X.h.set i (.mp es2))[j]? = some db→(j=i∧db=.mp es2)∨(j≠i∧X.h[j]? = some db):=fun {j db} h=>by
    by_cases e:j=i
    · subst e;rw [List.getElem?_set_self hlt,Option.some.injEq] at h;exact .inl ⟨rfl,h.symm⟩
    · rw [List.getElem?_set_ne (Ne.symm e)] at h;exact .inr ⟨e,h⟩
  have key2:∀ {j:Nat} {db:DB},(X.h.set i (.mp es2))[j]? = some db→∃ db0,X.h[j]? = some db0∧cD db0 db∧db0.live=true∧db0.fix=db.fix∨(X.h[j]? = some db∧db.live=false):=fun {j db} h=>by
    rcases key h with ⟨rfl,rfl⟩|⟨_,h1⟩
    · exact ⟨_,.inl ⟨hd,True.intro,rfl,rfl⟩⟩
    · by_cases hl:db.live=true
      · exact ⟨db,.inl ⟨h1,cD.refl hl,hl,rfl⟩⟩
      · exact ⟨db,.inr ⟨h1,by simpa using hl⟩⟩
  have old:∀ {j:Nat} {db:DB},(X.h.set i (.mp es2))[j]? = some db→db.live=true→∃ db0,X.h[j]? = some db0∧cD db0 db∧db0.live=true∧db0.fix=db.fix:=fun h hl=>by
    obtain ⟨db0,h1|⟨_,h1⟩⟩:=key2 h
    · exact ⟨db0,h1⟩
    · rw [hl] at h1;cases h1
  have hst:Step X ⟨X.w,X.S,X.G,X.h.set i (.mp es2)⟩ :=
    { size:=Nat.le_refl _,os:=rfl,tape:=rfl,output:=qG.rfl',kept:=Kept.refl _ _,len:=by simp
      ids:=fun j db' _ h hl=>by
        obtain ⟨db0,h1,h2,h3,_⟩:=old h hl;exact ⟨db0,h1,h2,rfl,(hi.blk j db0 h1).same h3⟩
      frame:=fun _ _ _=>rfl
      mine:=fun j db g h hl hf hg=>by
        obtain ⟨db0,h1,h2,h3,h4⟩:=old h hl;exact .inr ⟨j,db0,g,h1,h3,h4.trans hf,hg,rfl⟩
      upper:=fun _ h=>.inl h }
  refine ⟨⟨X.w,X.S,X.G,X.h.set i (.mp es2)⟩,rfl,by show X.h.set i _=_;rw [hh],?_,hs.trans hi hst,ht.size,fun j=>(ht.rel j).step hst,ht.defs⟩
  exact
    { slt:=hi.slt
      blk:=fun j db h=>by
        rcases key h with ⟨rfl,rfl⟩|⟨_,h1⟩
        · have:=hi.blk j _ hd;obtain ⟨g,ms,c,k1,k2,⟨es',k3,k4,k5⟩,k6⟩:=this;exact ⟨g,ms,c,k1,k2,⟨es',k3.trans hp,k4,k5⟩,k6⟩
        · exact (hi.blk j db h1).move hst rfl fun _ _=>rfl
      own:=fun j db g h hl hg=>by
        obtain ⟨db0,h1,h2,h3,h4⟩:=old h hl;rw [← h4];exact hi.own j db0 g h1 h3 hg
      inj:=fun j db j' db' g g' h hl hf h' hl' hg hg' he=>by
        obtain ⟨db0,h1,h2,h3,h4⟩:=old h hl;obtain ⟨db1,k1,k2,k3,k4⟩:=old h' hl';exact hi.inj j db0 j' db1 g g' h1 h3 (h4.trans hf) k1 k3 hg hg' he }
theorem aA.dataRH {P:Program} {f:FuncId} {args:List DV} {h:aC} {k n:Nat} {es:List (List PV)} (hn:es.length=n) (hcl:h.all (bN h.length)=true) (hc:aA P f args h fun d h'=>d=.c (.own h.length 0 n)∧h'=h++[.arr k es false]):
    aA P f args h fun d h'=>d=.c (.p (.sl k es))∧h'=h:=by
  intro X vals hh hi gd hr;have key:∀ v w',Ret X (fun d h'=>d=.c (.own h.length 0 n)∧h'=h++[.arr k es false]) v w'→Ret X (fun d h'=>d=.c (.p (.sl k es))∧h'=h) v w':=by
    rintro v w' ⟨d,Z,k1,k2,k3,k4,rfl,k6⟩;have hrel:∀ i:Nat,bA Z (look [(0,.c (.own h.length 0 n))] i) ((#[v]:Array Value).getD i undef):=fun i=>by
      simp only [look];split
      · rename_i h0;subst h0;exact k4
      · exact True.intro
    have hp:zAW Z.h (.own h.length 0 n)=some (.sl k es):=by simp [zAW,k6,← hn]
    obtain ⟨X',p1,p2,p3,p4,p5⟩:=zDp (n0:=X.h.length) (s:=⟨1,[(0,.c (.own h.length 0 n))],Z.h⟩) 0 h.length 0 n (x:=.sl k es) rfl hp X Z ⟨#[v],[]⟩ rfl rfl k2 k3 ⟨rfl,hrel,rfl⟩;have hv:bA X' (.c (.p (.sl k es))) v:=p5.rel 0;have hx:X'.h.take h.length=h:=by rw [p2];simp [tK,zFf,k6]
    have hc1:HInv (X'.cut h.length):=p3.cut (by rw [hx];exact hcl);have hc2:Step X (X'.cut h.length):=p4.cut (by rw [hh];exact Nat.le_refl _);exact ⟨.c (.p (.sl k es)),X'.cut h.length,p1.trans k1,hc1,hc2,hv,rfl,hx⟩
  rcases hc X vals hh hi gd hr with ⟨h1,h2⟩|⟨v,w',h1,h2⟩
  · exact .inl ⟨h1,h2.mono fun e w' ⟨v,he,hv⟩=>⟨v,he,key v w' hv⟩⟩
  · exact .inr ⟨v,w',h1,key v w' h2⟩
theorem zMQ {P:Program} {T:Tab} (hT:bD P T) {f:FuncId} {fn:Func} {c:Code} {args:List DV} {h:aC} {R:DV→aC→Prop} (hf:P.funcs[f]? = some fn) (hb:fn.body=some c)
    (hc:(Nat.ble args.length fn.ntmps && !(fn.name == "runtime.NumGoroutine"))=true)
    (hs:∀ X0:Ctx,X0.h=h→SWP P X0 c ⟨fn.ntmps,iP 0 args,h⟩ (DT T fn.results.toList R)):aA P f args h R:=by
  simp only [Bool.and_eq_true,Bool.not_eq_true'] at hc;refine dW hT hf hb (Nat.le_of_ble_eq_true hc.1) hc.2 fun X0 hX=>?_;rw [eJ];refine eY (hs X0 hX) fun e s hv=>?_;cases e <;> simp only [DT,dpost] at hv ⊢
  case normal=>exact fU _ [] (fun l hl=>.inl (by simpa using hl)) hv
  case ret=>exact fU _ [] (fun l hl=>.inl (by simpa using hl)) hv
def gW (ms:Array MapEntry) (js:List Nat):Array Nat:=(js.map fun j=>(ms.toList.map (·.born)).getD j 0).toArray
theorem XU {ms:Array MapEntry} {js:List Nat} {j:Nat} {e:MapEntry} (h:ms.toList[j]? = some e):gW ms (js++[j])=(gW ms js).push e.born:=by
  have hf:(ms.toList.map (·.born)).getD j 0=e.born:=by rw [List.getD_eq_getElem?_getD,List.getElem?_map,h];rfl
  unfold gW;rw [List.map_append,List.map_cons,List.map_nil,hf];simp
theorem zBi {ms:Array MapEntry} {js:List Nat} {j:Nat} {e:MapEntry} (h:ms.toList[j]? = some e) (hm:j∈js):(gW ms js).contains e.born=true:=by
  unfold gW;simp only [List.contains_toArray,List.contains_iff_mem,List.mem_map];exact ⟨j,hm,by rw [List.getD_eq_getElem?_getD,List.getElem?_map,h];rfl⟩
theorem zFr {ms:Array MapEntry} {js:List Nat} {c j:Nat} {e:MapEntry} (hb:zAS ms.toList c) (hj:∀ k∈js,k<ms.toList.length) (h:ms.toList[j]? = some e) (hc:(gW ms js).contains e.born=true):j∈js:=by
  unfold gW at hc;simp only [List.contains_toArray,List.contains_iff_mem,List.mem_map] at hc;obtain ⟨k,hk,he⟩:=hc;have hlt:=hj k hk;have hk2:ms.toList[k]? = some ms.toList[k]:=List.getElem?_eq_getElem hlt;simp only [List.getD_eq_getElem?_getD,List.getElem?_map,hk2,Option.map_some,Option.getD_some] at he;obtain ⟨hjl,hje⟩:=List.getElem?_eq_some_iff.1 h;have hp:=List.pairwise_iff_getElem.1 hb.1;rcases Nat.lt_trichotomy k j with hlt2|rfl|hgt
  · have:=hp k j hlt hjl hlt2;rw [hje] at this;omega
  · exact hk
  · have:=hp j k hjl hlt hgt;rw [hje] at this;omega
theorem zBh {ms:Array MapEntry} {js:List Nat} {c:Nat} (hb:zAS ms.toList c) (hj:∀ k∈js,k<ms.toList.length) (hz:(leftOf ms (gW ms js)).size=0):∀ j,j<ms.toList.length→j∈js:=by
  intro j hlt;have hj2:ms.toList[j]? = some ms.toList[j]:=List.getElem?_eq_getElem hlt;refine zFr hb hj hj2 ?_;cases hc:(gW ms js).contains ms.toList[j].born with
  | true=>rfl
  | false =>
    exfalso;have hmem:ms.toList[j]∈leftOf ms (gW ms js):=by
      unfold leftOf;rw [Array.mem_filter];exact ⟨by rw [← Array.mem_toList_iff];exact List.mem_of_getElem? hj2,by rw [hc];rfl⟩
    have:leftOf ms (gW ms js) = #[]:=Array.eq_empty_of_size_eq_zero hz;rw [this] at hmem;simp at hmem
theorem zAb {js:List Nat} {n:Nat} (hn:js.Nodup) (hj:∀ k∈js,k<n) (ha:∀ j,j<n→j∈js):js.Perm (List.range n):=by
  refine (List.perm_ext_iff_of_nodup hn List.nodup_range).2 fun a=>?_;rw [List.mem_range];exact ⟨hj a,ha a⟩
theorem ZV {js:List Nat} {n:Nat} (hn:js.Nodup) (hj:∀ k∈js,k<n):js.length≤n:=by
  have h:js.Perm ((List.range n).filter fun k=>js.contains k):=(List.perm_ext_iff_of_nodup hn (List.nodup_range.filter _)).2 fun a=>by
    rw [List.mem_filter,List.mem_range,List.contains_iff_mem];exact ⟨fun h=>⟨hj a h,h⟩,fun h=>h.2⟩
  have:=List.length_filter_le (fun k=>js.contains k) (List.range n);rw [List.length_range] at this;rw [h.length_eq];exact this
theorem ZW {js:List Nat} {j:Nat} (hn:js.Nodup) (hj:j ∉ js):(js++[j]).Nodup :=
  List.nodup_append.2 ⟨hn,by simp,fun a ha b hb e=>hj (by rw [← List.mem_singleton.1 hb,← e];exact ha)⟩
def vI {α:Type} (es:List α) (js:List Nat):List α:=js.filterMap fun j=>es[j]?
theorem zFp {α:Type} {es:List α} {js:List Nat} {j:Nat} {y:α} (h:es[j]? = some y):vI es (js++[j])=vI es js++[y]:=by
  unfold vI;rw [List.filterMap_append];simp [h]
theorem HT {α:Type}:∀ es:List α,vI es (List.range es.length)=es
  | []=>rfl
  | x::es=>by
    have:=HT es;unfold vI at this ⊢;rw [List.length_cons,List.range_succ_eq_map,List.filterMap_cons];simp only [List.getElem?_cons_zero];rw [List.filterMap_map];show x::List.filterMap (fun j=>es[j]?) _=_;rw [this]
theorem zFo {α:Type} {es:List α} {js:List Nat} (hn:js.Nodup) (hj:∀ k∈js,k<es.length) (ha:∀ j,j<es.length→j∈js):(vI es js).Perm es:=by
  have h:=(zAb hn hj ha).filterMap fun j=>es[j]?;have e:=HT es;unfold vI at e ⊢;rw [e] at h;exact h
end Go.Dm
end
section
namespace Go.Proofs.YtlbfnbldeefgmaaGreatDoor
open Go Go.Dm Go.Proofs
set_option maxRecDepth 100000
set_option maxHeartbeats 8000000
theorem YA {h:aC} {i n:Nat} {l:List Nm} {K:DV→aC→Prop} (hl:l.length≤1000000) (hn:n=l.length) (hcl:h.all (bN h.length)=true) (h0:h[i]? = some (.arr 2 (bM l) false)) (hk:K (.c (.p (.sl 2 (bM l)))) h):
  aA Tryz.prog 51 [.c (.own i 0 n)] h K :=
 aA.mono (aA.dataRH (fC l) hcl (JB hl hn h0 ⟨rfl,rfl⟩)) (by rintro _ _ ⟨rfl,rfl⟩;exact hk)
theorem zBn {h:aC} {i n:Nat} {l:List Ly} {K:DV→aC→Prop} (hl:l.length≤1000000) (hn:n=l.length) (hcl:h.all (bN h.length)=true) (h0:h[i]? = some (.arr 4 (cZ l) false)) (hk:K (.c (.p (.sl 4 (cZ l)))) h):
  aA Tryz.prog 52 [.c (.own i 0 n)] h K :=
 aA.mono (aA.dataRH (fZ l) hcl (zFu hl hn h0 ⟨rfl,rfl⟩)) (by rintro _ _ ⟨rfl,rfl⟩;exact hk)
theorem zLq {l:List Nm} (hl:l.length≤1000000):aA Tryz.prog 58 [.c (.p (.sl 2 (bM l))),.c (.p (.sl 2 (bM l)))] [] fun r h=>r=.c (.p (.b true))∧h=[]:=by
 refine ent aB aK Tryz.func58 rfl rfl fun X0 hX=>?_;simp only [Tryz.f58,go_sem]
 repeat' (first|exact ⟨⟩|refine sp ?_)
 refine dS aB aK (α:=Nat) (fun k=>⟨26,[(0,.c (.p (.sl 2 (bM l)))),(1,.c (.p (.sl 2 (bM l)))),(12,.c (.p (.i .i64 l.length))),(13,.c (.p (.i .i64 k)))],[]⟩)
  (fun k=>k≤l.length) (fun k=>l.length-k) 0 (Nat.zero_le _) (cJ (aI (by rw [hX];rfl) rfl rfl (by simp only [aH,aL];(repeat' (first|exact rfl|exact True.intro|refine And.intro ?_ ?_))))) ?_
 intro k hk;by_cases hlt:k<l.length
 ·have hx:l[k]? = some l[k]:=List.getElem?_eq_getElem hlt;have hg:=oM hx;have h1:decide ((k:Int)<(l.length:Int))=true:=decide_eq_true (by omega);have h2:(k:Int)<(l.length:Int):=by omega
  have h3:(0:Int)≤k:=by omega
  have w1:IntKind.i64.wrap ((k:Int)+1)=k+1:=wrap_i64 (by omega) (by omega);generalize l[k]=x at hx hg;clear hx
  repeat' (first|exact ⟨⟩|refine sp ?_|((refine aN (id:=6) aB aK [] [0,1,2,3,4,5,6,7,8] (by decide +kernel) ?_);(repeat' (first|(refine aT ?_)|((refine bV ?_ rfl rfl ?_ ?_);(rotate_left 1);(focus ((repeat' (first|exact ⟨⟩|refine sp ?_|refine zLR ?_));exact rfl));(simp only [aG]))))))
  exact qB (k+1) (by omega) (by omega) (cJ (aI rfl rfl rfl (by simp only [aH,aL];(repeat' (first|exact rfl|exact True.intro|refine And.intro ?_ ?_)))))
 ·have h1:decide ((k:Int)<(l.length:Int))=false:=decide_eq_false (by omega)
  repeat' (first|exact ⟨⟩|refine sp ?_)
theorem zMS {l:List Ly} (hl:l.length≤1000000):aA Tryz.prog 59 [.c (.p (.sl 4 (cZ l))),.c (.p (.sl 4 (cZ l)))] [] fun r h=>r=.c (.p (.b true))∧h=[]:=by
 refine ent aB aK Tryz.func59 rfl rfl fun X0 hX=>?_;simp only [Tryz.f59,go_sem]
 repeat' (first|exact ⟨⟩|refine sp ?_)
 refine dS aB aK (α:=Nat) (fun k=>⟨26,[(0,.c (.p (.sl 4 (cZ l)))),(1,.c (.p (.sl 4 (cZ l)))),(12,.c (.p (.i .i64 l.length))),(13,.c (.p (.i .i64 k)))],[]⟩)
  (fun k=>k≤l.length) (fun k=>l.length-k) 0 (Nat.zero_le _) (cJ (aI (by rw [hX];rfl) rfl rfl (by simp only [aH,aL];(repeat' (first|exact rfl|exact True.intro|refine And.intro ?_ ?_))))) ?_
 intro k hk;by_cases hlt:k<l.length
 ·have hx:l[k]? = some l[k]:=List.getElem?_eq_getElem hlt;have hg:=lK hx;have h1:decide ((k:Int)<(l.length:Int))=true:=decide_eq_true (by omega);have h2:(k:Int)<(l.length:Int):=by omega
  have h3:(0:Int)≤k:=by omega
  have w1:IntKind.i64.wrap ((k:Int)+1)=k+1:=wrap_i64 (by omega) (by omega);generalize l[k]=x at hx hg;clear hx
  repeat' (first|exact ⟨⟩|refine sp ?_|((refine aN (id:=6) aB aK [] [0,1,2,3,4,5,6,7,8] (by decide +kernel) ?_);(repeat' (first|(refine aT ?_)|((refine bV ?_ rfl rfl ?_ ?_);(rotate_left 1);(focus ((repeat' (first|exact ⟨⟩|refine sp ?_|refine zLG ?_));exact rfl));(simp only [aG]))))))
  exact qB (k+1) (by omega) (by omega) (cJ (aI rfl rfl rfl (by simp only [aH,aL];(repeat' (first|exact rfl|exact True.intro|refine And.intro ?_ ?_)))))
 ·have h1:decide ((k:Int)<(l.length:Int))=false:=decide_eq_false (by omega)
  repeat' (first|exact ⟨⟩|refine sp ?_)
def zAt (r:Rm):aC:=[.box [.own 1 0 r.N.length,.own 2 0 r.L.length,.mp 3,.p (.i .i64 r.x)],.arr 2 (bM r.N) false,.arr 4 (cZ r.L) false,.mp (oL r.E),.box [.p (.sl 2 (bM r.N)),.p (.sl 4 (cZ r.L)),.mp 5,.p (.i .i64 r.x)],.mp (oL r.E)]
def BA (r:Rm):aC:=[.box [.own 1 0 r.N.length,.own 2 0 r.L.length,.mp 3,.p (.i .i64 r.x)],.arr 2 (bM r.N) false,.arr 4 (cZ r.L) false,.mp (oL r.E),.box [.p (.sl 2 (bM r.N)),.p (.sl 4 (cZ r.L)),.mp 5,.p (.i .i64 r.x)],.mp (oL r.E),.box [.ptr 0 0],.box [.ptr 4 0]]
theorem SS {r:Rm} {i p s:Int} {f:Bool} (hE:OkE (jP r.E i)):aA Tryz.prog 61 [.agg [.p (.i .i64 i),.p (.i .i64 p),.p (.i .i64 s),.p (.b f)],.c (.ptr 6 0),.c (.ptr 7 0)] (BA r)
  fun d h=>d=.c (.p (.b false))∧h=BA r:=by
 have hs:=RJ (a:=jP r.E i) (b:=jP r.E i) (Nat.le_trans hE.len (by decide)) (Nat.le_trans hE.len (by decide));rw [zP fun x hx=>hE.tlen x hx] at hs;unfold BA;clear hE;refine ent aB aK Tryz.func61 rfl rfl fun X0 hX=>?_;simp only [Tryz.f61,go_sem]
 repeat' (first|exact ⟨⟩|refine sp ?_|((refine aN (id:=1) aB aK [] [0,1,2,3,4,5,6,7,8,9,10,11,12,13,14,15,16] (by decide +kernel) ?_);(repeat' (first|(refine aT ?_)|((refine bV ?_ rfl rfl ?_ ?_);(rotate_left 1);(focus ((repeat' (first|exact ⟨⟩|refine sp ?_|refine uF (hs) ?_));exact rfl));(simp only [aG]))))))
theorem NA {r:Rm} (hr:OkR r):aA Tryz.prog 118 [.c (.own 2 0 r.L.length),.c (.clo 61 [.ptr 6 0,.ptr 7 0])] (BA r)
  fun d h=>d=.c (.p (.i .i64 (-1)))∧h=BA r:=by
 have hll:=hr.ll;have hc:=fun (x:Ly) (hx:x∈r.L)=>SS (p:=x.p) (s:=x.s) (f:=x.f) (hr.ent x hx);unfold BA at *;clear hr;refine ent aB aK Tryz.func118 rfl rfl fun X0 hX=>?_;simp only [Tryz.f118,go_sem]
 repeat' (first|exact ⟨⟩|refine sp ?_)
 refine dS aB aK (α:=Nat) (fun k=>⟨19,[(0,.c (.own 2 0 r.L.length)),(1,.c (.clo 61 [.ptr 6 0,.ptr 7 0])),(7,.c (.p (.i .i64 r.L.length))),(8,.c (.p (.i .i64 k)))],[.box [.own 1 0 r.N.length,.own 2 0 r.L.length,.mp 3,.p (.i .i64 r.x)],.arr 2 (bM r.N) false,.arr 4 (cZ r.L) false,.mp (oL r.E),.box [.p (.sl 2 (bM r.N)),.p (.sl 4 (cZ r.L)),.mp 5,.p (.i .i64 r.x)],.mp (oL r.E),.box [.ptr 0 0],.box [.ptr 4 0]]⟩)
  (fun k=>k≤r.L.length) (fun k=>r.L.length-k) 0 (Nat.zero_le _) (cJ (aI (by rw [hX];rfl) rfl rfl (by simp only [aH,aL];(repeat' (first|exact rfl|exact True.intro|refine And.intro ?_ ?_))))) ?_
 intro k hk;by_cases hlt:k<r.L.length
 ·have hx:r.L[k]? = some r.L[k]:=List.getElem?_eq_getElem hlt;have hg:=lK hx;have hc:=hc _ (List.getElem_mem hlt);have h1:decide ((k:Int)<(r.L.length:Int))=true:=decide_eq_true (by omega);have h2:(k:Int)<(r.L.length:Int):=by omega
  have h3:(0:Int)≤k:=by omega
  have w1:IntKind.i64.wrap ((k:Int)+1)=k+1:=wrap_i64 (by omega) (by omega);generalize r.L[k]=x at hx hg hc;clear hx
  repeat' (first|exact ⟨⟩|refine sp ?_|refine uS [0,1,2,3,4,5,6,7] (hc) ?_)
  exact qB (k+1) (by omega) (by omega) (cJ (aI rfl rfl rfl (by simp only [aH,aL];(repeat' (first|exact rfl|exact True.intro|refine And.intro ?_ ?_)))))
 ·have h1:decide ((k:Int)<(r.L.length:Int))=false:=decide_eq_false (by omega);clear hc
  repeat' (first|exact ⟨⟩|refine sp ?_)
theorem MZ {r:Rm} (hr:OkR r):aA Tryz.prog 60 [.c (.own 2 0 r.L.length),.c (.clo 61 [.ptr 6 0,.ptr 7 0])] (BA r)
  fun d h=>d=.c (.p (.b false))∧h=BA r:=by
 have hc:=NA hr;unfold BA at *;clear hr;refine ent aB aK Tryz.func60 rfl rfl fun X0 hX=>?_;simp only [Tryz.f60,go_sem]
 repeat' (first|exact ⟨⟩|refine sp ?_|refine uS [0,1,2,3,4,5,6,7] (hc) ?_)
theorem zAz {r:Rm} (hr:OkR r):aA Tryz.prog 15 [.c (.ptr 0 0),.c (.ptr 4 0)] (zAt r) fun d h=>d=.c (.p (.b true))∧h=zAt r:=by
 have hnl:=hr.nl;have hll:=hr.ll;have hc:=MZ hr;have k1:∀ {h:aC} {K:DV→aC→Prop},h[1]? = some (.arr 2 (bM r.N) false)→K (.c (.p (.b true))) h→aA Tryz.prog 58 [.c (.own 1 0 r.N.length),.c (.p (.sl 2 (bM r.N)))] h K:=fun h0 hk =>
  zAO rfl (by rw [← fC,List.take_length]) (zLq (by omega)) h0 (fun d hd=>by subst hd;exact ⟨rfl,hk⟩)
 have k2:∀ {h:aC} {K:DV→aC→Prop},h[2]? = some (.arr 4 (cZ r.L) false)→K (.c (.p (.b true))) h→aA Tryz.prog 59 [.c (.own 2 0 r.L.length),.c (.p (.sl 4 (cZ r.L)))] h K:=fun h0 hk =>
  zAO rfl (by rw [← fZ,List.take_length]) (zMS (by omega)) h0 (fun d hd=>by subst hd;exact ⟨rfl,hk⟩)
 unfold BA at hc;unfold zAt;clear hr;refine ent aB aK Tryz.func15 rfl rfl fun X0 hX=>?_;simp only [Tryz.f15,go_sem]
 repeat' (first|exact ⟨⟩|refine sp ?_|((refine aN (id:=1) aB aK [] [0,1,2,3,4,5,6,7,8,9,10,11,12,13,14,15,16,17,18,19,20,21,22,23,24,25,26,27,28,29,30,31,32,33,34,35,36,37,38,39,40] (by decide +kernel) ?_);(repeat' (first|(refine aT ?_)|((refine bV ?_ rfl rfl ?_ ?_);(rotate_left 1);(focus ((repeat' (first|exact ⟨⟩|refine sp ?_|refine k1 rfl ?_|refine k2 rfl ?_));exact rfl));(simp only [aG])))))|refine uS [0,1,2,3,4,5,6,7] (hc) ?_)
theorem XA:∀ (l:List (Int × PV)) (n:Int) (x:PV),(∀ e∈l,e.1≠n)→AO l n x=l++[(n,x)]
 | [],_,_,_=>rfl
 | e::es,n,x,h=>by
  simp only [AO];rw [if_neg (h e List.mem_cons_self),XA es n x fun e he=>h e (List.mem_cons_of_mem _ he)];rfl
theorem zIS {es:List (Int × PV)} {js:List Nat} {j:Nat} {y:Int × PV} (hn:(es.map (·.1)).Nodup) (hy:es[j]? = some y) (hj:j ∉ js):∀ e∈vI es js,e.1≠y.1:=by
 intro e he h;unfold vI at he;obtain ⟨k,hk,hke⟩:=List.mem_filterMap.1 he;have hp:=List.pairwise_iff_getElem.1 hn;obtain ⟨k1,k2⟩:=List.getElem?_eq_some_iff.1 hke;obtain ⟨j1,j2⟩:=List.getElem?_eq_some_iff.1 hy;rcases Nat.lt_trichotomy k j with h3|rfl|h3
 ·exact hp k j (by simpa using k1) (by simpa using j1) h3 (by simp [k2,j2,h])
 ·exact hj hk
 ·exact hp j k (by simpa using j1) (by simpa using k1) h3 (by simp [k2,j2,h])
theorem zAu {r:Rm} (hr:OkR r):aA Tryz.prog 13 [.c (.ptr 0 0)] (cB r) fun d h=>d=.c (.ptr 4 0)∧h=zAt r:=by
 have hnl:=hr.nl;have hll:=hr.ll;have k1:∀ {h:aC} {K:DV→aC→Prop},h[1]? = some (.arr 2 (bM r.N) false)→h.all (bN h.length)=true→K (.c (.p (.sl 2 (bM r.N)))) h→aA Tryz.prog 51 [.c (.own 1 0 r.N.length)] h K:=fun h0 hc hk=>YA (by omega) rfl hc h0 hk;have k2:∀ {h:aC} {K:DV→aC→Prop},h[2]? = some (.arr 4 (cZ r.L) false)→h.all (bN h.length)=true→K (.c (.p (.sl 4 (cZ r.L)))) h→aA Tryz.prog 52 [.c (.own 2 0 r.L.length)] h K:=fun h0 hc hk=>zBn (by omega) rfl hc h0 hk;clear hr;refine aA.perm [0,1,2,3,5,4] (d1:=.c (.ptr 5 0)) (h1:=[.box [.own 1 0 r.N.length,.own 2 0 r.L.length,.mp 3,.p (.i .i64 r.x)],.arr 2 (bM r.N) false,.arr 4 (cZ r.L) false,.mp (oL r.E),.mp (oL r.E),.box [.p (.sl 2 (bM r.N)),.p (.sl 4 (cZ r.L)),.mp 4,.p (.i .i64 r.x)]]) ?_ rfl rfl (by unfold zAt;exact (by simp only [iD,kW,iC,rH];(repeat' (first|exact rfl|exact True.intro|refine And.intro ?_ ?_))));refine zMQ aB Tryz.func13 rfl rfl fun X0 hX=>?_;simp only [Tryz.f13,go_sem];refine cL aB aK ?_
 repeat' (first|exact ⟨⟩|refine sp ?_)
 refine cL aB aK ?_
 repeat' (first|exact ⟨⟩|refine sp ?_|((refine aN (id:=1) aB aK [10,16] [10,0,1,2,3,4,5,6,7,8,9,11,12,13,14,15,16,17] (by decide +kernel) ?_);(repeat' (first|(refine aT ?_)|((refine cV ?_ ?_ rfl rfl rfl ?_ ?_);(rotate_left 2);(focus ((repeat' (first|exact ⟨⟩|refine sp ?_));((refine And.intro ?_ ?_ <;> exact rfl))));(simp only [aG]))|((refine cU ?_ rfl rfl rfl ?_ ?_);(rotate_left 1);(focus ((repeat' (first|exact bG|refine aZ ?_ ?_));(all_goals ((repeat' (first|exact ⟨⟩|refine sp ?_|refine k1 rfl rfl ?_|refine k2 rfl rfl ?_));(try (exact rfl))))));(simp only [aG]))))))
 refine zZ ?_;refine zED aB 4 (i:=27) (mid:=3) [4,5] [.mp [],.box [.p (.sl 2 (bM r.N)),.p (.sl 4 (cZ r.L)),.mp 0,.p (.i .i64 r.x)]] [(3,.c (.ptr 1 0))] (oL r.E) rfl rfl rfl rfl Tryz.underlying103 (by decide) ?_;intro K hK
 replace hK:=PLift.up hK
 repeat' (first|exact ⟨⟩|refine sp ?_)
 refine hK.down _ _ _ (by decide) rfl rfl rfl (by simp only [go_sem]) (by simp only [mD,sM];(repeat' (first|exact rfl|exact True.intro|refine And.intro ?_ ?_))) ?_;clear hK k1 k2;intro b m ms c es' Y0 hpm hnd hlen hb hY;have hbn:(ms.toList.map (·.born)).Nodup:=List.pairwise_map.2 (hb.1.imp fun h=>Nat.ne_of_lt h)
 refine DP ?_;refine zEE (α:=List Nat) (fun js=>⟨40,[(27,.c (.p (.o (.pointer (some ⟨b,0,none⟩))))),(3,.c (.ptr 1 0))],[.mp (vI es' js),.box [.p (.sl 2 (bM r.N)),.p (.sl 4 (cZ r.L)),.mp 0,.p (.i .i64 r.x)]]⟩) (fun js=>(gW ms js,c))
  (fun js=>js.Nodup∧∀ k∈js,k<ms.toList.length) (fun js=>ms.toList.length-js.length) [] ⟨List.nodup_nil,by simp⟩ rfl (aI (by rw [hY];rfl) rfl rfl (by simp only [aH,aL];(repeat' (first|exact rfl|exact True.intro|refine And.intro ?_ ?_)))) ?_
 rintro js ⟨hn,hj⟩;refine HG ?_;refine zEF aB (i:=28) rfl rfl rfl (by decide) rfl hb.2 (Nat.le_refl _) ?_ ?_
 ·intro hz K hK
  replace hK:=PLift.up hK
  have hall:=zBh hb hj hz;have hpm2:(vI es' js).Perm (oL r.E):=(zFo hn (by rw [hlen];exact hj) (by rw [hlen];exact hall)).trans hpm;clear hall hz hlen
  repeat' (first|exact ⟨⟩|refine sp ?_)
  refine hK.down _ ?_;simp only [zMz];refine TD aB aK fun X1 hX1=>?_;clear hK
  repeat' (first|exact ⟨⟩|refine sp ?_)
  refine zHD (s':=⟨40,[(3,.c (.ptr 5 0))],[.box [.own 1 0 r.N.length,.own 2 0 r.L.length,.mp 3,.p (.i .i64 r.x)],.arr 2 (bM r.N) false,.arr 4 (cZ r.L) false,.mp (oL r.E),.mp (oL r.E),.box [.p (.sl 2 (bM r.N)),.p (.sl 4 (cZ r.L)),.mp 4,.p (.i .i64 r.x)]]⟩) ((zJL (es2:=oL r.E) 4 rfl hpm2).trans (cJ (aI (by rw [hX];rfl) rfl rfl (by simp only [aH,aL];(repeat' (first|exact rfl|exact True.intro|refine And.intro ?_ ?_)))))) ?_;refine iE aB aK ?_
  repeat' (first|exact ⟨⟩|refine sp ?_)
 ·intro j e y hje hyj hnc K hK
  replace hK:=PLift.up hK
  have hnew:j ∉ js:=fun h=>by rw [zBi hje h] at hnc;cases hnc
  have hjl:j<ms.toList.length:=(List.getElem?_eq_some_iff.1 hje).1;have hset:=XA (vI es' js) y.1 y.2 (zIS hnd hyj hnew);have hsn:=zFp (js:=js) hyj;have hbs:=XU (js:=js) hje;have hyl:∃ n l,y=(n,PV.sl 7 (fJ l)):=by
   have:=hpm.mem_iff.1 (List.mem_of_getElem? hyj);obtain ⟨z,_,rfl⟩:=List.mem_map.1 this;exact ⟨_,_,rfl⟩
  obtain ⟨yn,yl,rfl⟩:=hyl;simp only at hset;rw [← hsn] at hset;have hJ:PLift ((js++[j]).Nodup∧∀ k∈js++[j],k<ms.toList.length):=⟨ZW hn hnew,fun k hk=>by
   rcases List.mem_append.1 hk with h|h
   ·exact hj k h
   ·rw [List.mem_singleton.1 h];exact hjl⟩
  have hmu:ms.toList.length-(js++[j]).length<ms.toList.length-js.length:=by
   have:=ZV hJ.down.1 hJ.down.2;rw [List.length_append] at this;simp only [List.length_append,List.length_cons,List.length_nil] at this ⊢;omega
  clear hnc hnew hlen hsn
  repeat' (first|exact ⟨⟩|refine sp ?_)
  refine hK.down _ ?_;simp only [zMz];clear hK;refine zAI aB aK fun X1 hX1=>?_
  repeat' (first|exact ⟨⟩|refine sp ?_)
  refine DP ?_;refine HG ?_;refine zAH aB (i:=30) rfl rfl rfl (by decide) rfl rfl hje hyj hbn ?_;intro K2 hK2
  replace hK2:=PLift.up hK2
  repeat' (first|exact ⟨⟩|refine sp ?_)
  refine hK2.down _ ?_;simp only [zMz];clear hK2;refine TD aB aK fun X2 hX2=>?_
  repeat' (first|exact ⟨⟩|refine sp ?_)
  exact zNd (js++[j]) hJ.down hmu (by rw [hbs]) (aI rfl rfl rfl (by simp only [aH,aL];(repeat' (first|exact rfl|exact True.intro|refine And.intro ?_ ?_))))
end Go.Proofs.YtlbfnbldeefgmaaGreatDoor
end
