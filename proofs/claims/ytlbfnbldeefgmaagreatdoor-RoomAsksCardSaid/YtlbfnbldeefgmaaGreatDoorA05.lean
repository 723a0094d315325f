/- Part 6 of the proof of roomAsks_card, set without needless blanks. No condition. -/
import Derived.Test.YtlbfnbldeefgmaaGreatDoorA03
import Derived.ProofKit
import Derived.Below
import Derived.ChangeSame
import Derived.WideKeyArgs
set_option linter.all false
section
section
namespace Go.Dm
open Go
theorem mapM_at {α β:Type} {f:α→Option β}:∀ {l:List α} {ys:List β},l.mapM f=some ys→ys.length=l.length∧∀ (i:Nat) (x:α),l[i]? = some x→∃ y,ys[i]? = some y∧f x=some y
 | [],ys,h=>by
  simp only [List.mapM_nil,Option.pure_def,Option.some.injEq] at h;subst h;exact ⟨rfl,by simp⟩
 | a::l,ys,h=>by
  simp only [List.mapM_cons,Option.bind_eq_bind,Option.bind_eq_some_iff,Option.pure_def,Option.some.injEq] at h;obtain ⟨y,hy,zs,hz,rfl⟩:=h;obtain ⟨h1,h2⟩:=mapM_at hz;refine ⟨by simp [h1],fun i x hx=>?_⟩
  cases i with
  | zero=>simp only [List.getElem?_cons_zero,Option.some.injEq] at hx;subst hx;exact ⟨y,rfl,hy⟩
  | succ i=>simp only [List.getElem?_cons_succ] at hx ⊢;exact h2 i x hx
theorem pK {α:Type}:∀ (n:Nat) {p:Nat→α→Prop},(∀ i,i<n→∃ x,p i x)→∃ l:List α,l.length=n∧∀ (i:Nat) (x:α),l[i]? = some x→p i x
 | 0,_,_=>⟨[],rfl,by simp⟩
 | n+1,p,h=>by
  obtain ⟨x,hx⟩:=h 0 (by omega);obtain ⟨l,h1,h2⟩:=pK n (p:=fun i=>p (i+1)) fun i hi=>h (i+1) (by omega);refine ⟨x::l,by simp [h1],fun i y hy=>?_⟩
  cases i with
  | zero=>simp only [List.getElem?_cons_zero,Option.some.injEq] at hy;subst hy;exact hx
  | succ i=>simp only [List.getElem?_cons_succ] at hy;exact h2 i y hy
def JC (T:Tab):Nat→List (Nat × Nat)→Option Nat
 | off,[]=>some off
 | off,f::r=>if f.2=off then JC T (off+(T f.1).size) r else none
def rG (T:Tab):Nat→Nat→Bool
 | 0,_=>false
 | g+1,t =>
  match (T t).k with
  | .bool=>true
  | .int _=>true
  | .float=>true
  | .str=>true
  | .slice e=>rG T g e && decide ((T e).size≠0)
  | .struct fs=>(JC T 0 fs == some (T t).size) && fs.all fun f=>rG T g f.1
  | _=>false
def PVs (p:Nat→List PV→Prop):List (Nat × Nat)→List (List PV)→Prop
 | [],[]=>True
 | f::fs,x::xs=>p f.1 x∧PVs p fs xs
 | _,_=>False
def mS (T:Tab):Nat→Nat→List PV→Prop
 | 0,_,_=>False
 | g+1,t,xs =>
  match (T t).k with
  | .bool=>∃ b,xs=[.b b]
  | .int k=>∃ n,xs=[.i k n]∧(Lit.int k n).wf=true
  | .float=>∃ n,xs=[.f n]∧n<18446744073709551616
  | .str=>∃ l,xs=[.s l]∧l.length≤9223372036854775807
  | .slice e=>∃ es,xs=[.sl (T e).size es]∧(∀ x∈es,mS T g e x)∧es.length≤9223372036854775807
  | .struct fs=>∃ parts:List (List PV),xs=parts.flatten∧PVs (mS T g) fs parts
  | _=>False
section
variable {P:Program} {T:Tab} {H:Type} {enc:TypeId × Value→H} {w:World} {sp:Nat→Bool} {held:Bool}
theorem sW (hT:bD P T) {t:Nat} (h:(T t).k≠.no):P.cellsOf t=(T t).size:=by
 obtain ⟨_,i,z,h1,h2,_⟩:=bR hT h;simp [Program.cellsOf,h1,h2]
theorem oQ {g t:Nat} (h:rG T g t=true):(T t).k≠.no:=by
 cases g with
 | zero=>simp [rG] at h
 | succ g=>intro e;simp [rG,e] at h
theorem zFt {a:Addr} {n:Nat} {cs:List Value} (h:w.cells? 0 a n=some cs):cs.length=n∧∀ (i:Nat) (v:Value),cs[i]? = some v→w.cell? (a.add i)=some v:=by
 simp only [World.cells?,Nat.zero_le,if_true] at h;obtain ⟨h1,h2⟩:=mapM_at h;refine ⟨by simpa using h1,fun i v hv=>?_⟩
 have hi:i<n:=by have:=aM hv;rw [h1] at this;simpa using this
 obtain ⟨y,h3,h4⟩:=h2 i i (by simp [hi]);rw [hv] at h3;cases h3;exact h4
theorem AF (hT:bD P T):∀ (g:Nat) {t fuel:Nat} {cs:List Value} {d:DataW H} {ps:List MemPlace},rG T g t=true→DataW.trod enc P w 0 sp held fuel t cs=some (d,ps) →
  ∃ xs,mS T g t xs∧bJ w (fun b=>b<w.heap.size) xs cs
 | 0,_,_,_,_,_,hg,_=>by simp [rG] at hg
 | g+1,t,0,_,_,_,_,h=>by simp [DataW.trod] at h
 | g+1,t,fuel+1,cs,d,ps,hg,h=>by
  have hkn:=oQ hg;cases hk:(T t).k with
  | no=>exact absurd hk hkn
  | bool =>
   simp only [DataW.trod,wK hT hk] at h;simp only [mS,hk]
   match cs,h with
   | [.bool b],_=>exact ⟨_,⟨b,rfl⟩,by simp [bJ,cT]⟩
  | int k =>
   simp only [DataW.trod,oC hT hk] at h;simp only [mS,hk]
   match cs,h with
   | [.int k' n],h =>
    simp only at h;split at h
    ·rename_i hw;exact ⟨_,⟨n,rfl,hw.2⟩,by simp [bJ,cT,hw.1]⟩
    ·cases h
  | float =>
   have hu:P.underlying t=some (.float .f64):=by
    have:=(bR hT hkn).1;rw [hk] at this;revert this;cases P.underlying t with
    | none=>simp [gT]
    | some d=>cases d <;> simp [gT]
   simp only [DataW.trod,hu] at h;simp only [mS,hk]
   match cs,h with
   | [.float k' n],h =>
    simp only at h;split at h
    ·rename_i hw;exact ⟨_,⟨n,rfl,by simpa [Lit.wf] using hw.2⟩,by simp [bJ,cT,hw.1]⟩
    ·cases h
  | str =>
   simp only [DataW.trod,kL hT hk] at h;simp only [mS,hk]
   match cs,h with
   | [.string s],h =>
    simp only at h;split at h
    ·rename_i hw;exact ⟨_,⟨s.data.toList,rfl,by unfold maxLen at hw;simpa using hw⟩,by simp [bJ,cT]⟩
    ·cases h
  | slice e =>
   simp only [rG,hk,Bool.and_eq_true,decide_eq_true_eq] at hg;have hke:=oQ hg.1;have hce:=sW hT hke;simp only [DataW.trod,aX hT hk] at h;simp only [mS,hk]
   match cs,h with
   | [.slice none 0 0],_=>exact ⟨_,⟨[],rfl,by simp,by simp⟩,⟨⟨none,0,rfl,Nat.le_refl _,.inl rfl⟩,True.intro⟩⟩
   | [.slice (some a) len cap],h =>
    simp only at h;split at h
    ·rename_i hb;obtain ⟨_,hlc,hcm⟩:=hb;simp only [Option.bind_eq_some_iff,Option.map_eq_some_iff] at h;obtain ⟨elems,he,_⟩:=h;obtain ⟨h1,h2⟩:=mapM_at he;simp only [List.length_range] at h1;have h3:∀ i,i<len→∃ xs,mS T g e xs∧xs.length=(T e).size∧∃ cs,bJ w (fun b=>b<w.heap.size) xs cs∧∀ (j:Nat) (v:Value),cs[j]? = some v→w.cell? ((a.add (i*(T e).size)).add j)=some v:=by
      intro i hi;obtain ⟨y,_,hy⟩:=h2 i i (by simp [hi]);simp only [Option.bind_eq_some_iff] at hy;obtain ⟨ci,hc,ht⟩:=hy;simp only [hce] at hc;obtain ⟨hl,hcell⟩:=zFt hc;obtain ⟨xs,hx,hr⟩:=AF hT g hg.1 (d:=y.1) (ps:=y.2) ht;exact ⟨xs,hx,by rw [hr.length,hl],ci,hr,hcell⟩
     obtain ⟨es,he1,he2⟩:=pK len h3;refine ⟨_,⟨es,rfl,fun x hx=>?_,by unfold maxLen at hcm;omega⟩,?_⟩
     ·obtain ⟨i,hi⟩:=List.mem_iff_getElem?.1 hx;exact (he2 i x hi).1
     ·simp only [bJ,cT];refine ⟨⟨some a,cap,by rw [he1],by omega,?_⟩,trivial⟩
      rcases Nat.eq_zero_or_pos len with hz|hz
      ·left;exact List.eq_nil_of_length_eq_zero (by omega)
      ·right;have h0:es[0]? = some es[0]:=List.getElem?_eq_getElem (by omega);obtain ⟨_,hx2,c0,hx3,hx4⟩:=he2 0 _ h0;have hc0:0<c0.length:=by rw [← hx3.length,hx2];omega
       have hcell:=hx4 0 _ (List.getElem?_eq_getElem hc0);have hadd:(a.add (0*(T e).size)).add 0=a:=by simp [Addr.add]
       rw [hadd] at hcell;obtain ⟨bl,off,spot⟩:=a;have hsp:spot=none:=by
        cases spot with
        | none=>rfl
        | some q =>
         simp only [World.cell?] at hcell;split at hcell <;> simp_all
       subst hsp;have hbl:bl<w.heap.size:=by
        rcases Nat.lt_or_ge bl w.heap.size with hlt|hge
        ·exact hlt
        ·simp only [World.cell?,Array.getElem?_eq_none hge] at hcell;cases hcell
       refine ⟨bl,off,rfl,hbl,eP.mk fun j x hj=>?_⟩;obtain ⟨_,y2,cj,y3,y4⟩:=he2 j x hj;refine ⟨y2,fV.mk fun q z hq=>?_⟩;obtain ⟨v,hv,hrv⟩:=y3.at_ hq;have:=y4 q v hv;rw [gI,gI] at this;exact ⟨v,this,hrv⟩
    ·cases h
  | struct fs =>
   simp only [rG,hk,Bool.and_eq_true,List.all_eq_true,beq_iff_eq] at hg;obtain ⟨fields,hu,hfs⟩:=lD hT hk;simp only [DataW.trod,hu,sW hT hkn] at h;simp only [mS,hk];split at h
   ·rename_i hlen;simp only [Option.map_eq_some_iff] at h;obtain ⟨xs,hx,_⟩:=h;obtain ⟨h1,h2⟩:=mapM_at hx;have key:∀ (fl:List Field) (off:Nat),JC T off (fl.map fun f=>(f.type,f.offset))=some (T t).size→(∀ f∈fl,f∈fields.toList) →
      ∃ parts,PVs (mS T g) (fl.map fun f=>(f.type,f.offset)) parts∧bJ w (fun b=>b<w.heap.size) parts.flatten (cs.drop off):=by
     intro fl
     induction fl with
     | nil =>
      intro off hc _;simp only [List.map_nil,JC,Option.some.injEq] at hc;refine ⟨[],trivial,?_⟩;rw [List.drop_of_length_le (by omega)];exact trivial
     | cons f fl ih =>
      intro off hc hin;simp only [List.map_cons,JC] at hc;split at hc
      ·rename_i ho;obtain ⟨parts,hp,hr⟩:=ih _ hc fun y hy=>hin y (List.mem_cons_of_mem _ hy);have hf:=hin f List.mem_cons_self;have hgf:rG T g f.type=true:=hg.2 (f.type,f.offset) (by rw [← hfs];exact List.mem_map.2 ⟨f,hf,rfl⟩);obtain ⟨i,hi⟩:=List.mem_iff_getElem?.1 hf;obtain ⟨y,_,hy⟩:=h2 i f hi;simp only [sW hT (oQ hgf)] at hy;obtain ⟨x,hx1,hx2⟩:=AF hT g hgf (d:=y.1) (ps:=y.2) hy;refine ⟨x::parts,⟨hx1,hp⟩,?_⟩;have ec:cs.drop off=((cs.drop off).take (T f.type).size)++cs.drop (off+(T f.type).size):=by
        rw [← List.drop_drop,List.take_append_drop]
       rw [List.flatten_cons,ec];rw [show f.offset=off from ho] at hx2
       exact hx2.append hr
      ·cases hc
    obtain ⟨parts,hp,hr⟩:=key fields.toList 0 (by rw [hfs];exact hg.1) fun _ h=>h;rw [hfs] at hp;exact ⟨_,⟨parts,rfl,hp⟩,by simpa using hr⟩
   ·cases h
  | _=>simp [rG,hk] at hg
theorem qA {g t:Nat} {fs:List (Nat × Nat)} {xs:List PV} (hk:(T t).k=.struct fs) (h:mS T (g+1) t xs):∃ parts:List (List PV),xs=parts.flatten∧PVs (mS T g) fs parts:=by
 simp only [mS,hk] at h;exact h
theorem dF {p:Nat→List PV→Prop} {f:Nat × Nat} {fs:List (Nat × Nat)} {ps:List (List PV)} (h:PVs p (f::fs) ps):∃ x r,ps=x::r∧p f.1 x∧PVs p fs r:=by
 cases ps with
 | nil=>exact h.elim
 | cons x r=>exact ⟨x,r,rfl,h.1,h.2⟩
theorem RZ {p:Nat→List PV→Prop} {ps:List (List PV)} (h:PVs p [] ps):ps=[]:=by
 cases ps with
 | nil=>rfl
 | cons x r=>exact h.elim
end
end Go.Dm
end
section
namespace Go.Dm
open Go Go.RowKit Go.ChangeShapes Go.WideShapes
def eC (W:World):Ctx:=⟨W,fun b=>b<W.heap.size,fun _=>none,[]⟩
theorem LC (W:World):HInv (eC W) :=
 ⟨fun _ h=>h,fun id db h=>by simp [eC] at h,fun id db g h=>by simp [eC] at h,fun id db id' db' g g' h=>by simp [eC] at h⟩
section
variable {P:Program} {T:Tab} {H:Type} {enc:TypeId × Value→H}
def zMv (ti:TI) (xs:List PV):DV:=if ti.k.agg then .agg (xs.map .p) else .c (.p (xs.headD .nil))
theorem TP (hT:bD P T) {W:World} {base:Nat} {sp:Nat→Bool} {held:Bool} (g:Nat) {t:Nat} {v:Value} {d:DataW H} {ps:List MemPlace} (hg:rG T g t=true) (hv:Value.okWide P W .any base t v)
  (h:DataW.Trod enc P W 0 sp held t v d ps):∃ xs,mS T g t xs∧bA (eC W) (zMv (T t) xs) v:=by
 obtain ⟨fuel,hf⟩:=h;obtain ⟨xs,hx,hr⟩:=AF hT g hg hf;refine ⟨xs,hx,?_⟩;have hkn:=oQ hg;cases g with
 | zero=>simp [rG] at hg
 | succ g =>
  have scalar:(∃ x,xs=[x])→v.cells = #[v]→(T t).k.agg=false→bA (eC W) (zMv (T t) xs) v:=by
   rintro ⟨x,rfl⟩ hc ha;rw [hc] at hr;simp only [zMv,ha,Bool.false_eq_true,if_false,List.headD_cons];exact wG (X:=eC W) hr.1
  cases hk:(T t).k with
  | no=>exact absurd hk hkn
  | bool =>
   simp only [mS,hk] at hx;obtain ⟨b,rfl⟩:=hx;refine scalar ⟨_,rfl⟩ ?_ (by rw [hk];rfl);simp only [Value.okWide,wK hT hk,Cell.okWide,Cell.ok] at hv;cases v <;> first|rfl|exact hv.elim
  | int k =>
   simp only [mS,hk] at hx;obtain ⟨b,rfl,_⟩:=hx;refine scalar ⟨_,rfl⟩ ?_ (by rw [hk];rfl);simp only [Value.okWide,oC hT hk,Cell.okWide,Cell.ok] at hv;cases v <;> first|rfl|exact hv.elim
  | float =>
   have hu:P.underlying t=some (.float .f64):=by
    have:=(bR hT hkn).1;rw [hk] at this;revert this;cases P.underlying t with
    | none=>simp [gT]
    | some d=>cases d <;> simp [gT]
   simp only [mS,hk] at hx;obtain ⟨b,rfl,_⟩:=hx;refine scalar ⟨_,rfl⟩ ?_ (by rw [hk];rfl);simp only [Value.okWide,hu,Cell.okWide,Cell.ok] at hv;cases v <;> first|rfl|exact hv.elim
  | str =>
   simp only [mS,hk] at hx;obtain ⟨b,rfl,_⟩:=hx;refine scalar ⟨_,rfl⟩ ?_ (by rw [hk];rfl);simp only [Value.okWide,kL hT hk,Cell.okWide,Cell.ok] at hv;cases v <;> first|rfl|exact hv.elim
  | slice e =>
   simp only [mS,hk] at hx;obtain ⟨b,rfl,_⟩:=hx;refine scalar ⟨_,rfl⟩ ?_ (by rw [hk];rfl);simp only [Value.okWide,aX hT hk,Cell.okWide,Cell.ok] at hv;cases v <;> first|rfl|exact hv.elim
  | struct fs =>
   obtain ⟨fields,hu,_⟩:=lD hT hk;simp only [Value.okWide,hu] at hv;obtain ⟨cs,rfl,_⟩:=hv;simp only [zMv,hk,TK.agg,if_true];exact ⟨cs.toList,by simp,bB.of_ps (X:=eC W) hr⟩
  | _=>simp [rG,hk] at hg
theorem zDk {f:FuncId} {fn:Func} (hf:P.funcs[f]? = some fn) (hb:fn.body.isSome=true) (hn:(fn.name == "runtime.NumGoroutine")=false) {ds:List DV} (hc:aA P f ds [] fun d h=>d=.c (.p (.b true))∧h=[])
  {W:World} (hsh:W.ShapedOpen P) (hsd:zIL W) {args:Array Value} (hr:dC (eC W) ds args.toList):Calls P f args W fun e W'=>e=.returned (.bool true)∧Below W.heap.size W W':=by
 have key:∀ v W',Ret (eC W) (fun d h=>d=.c (.p (.b true))∧h=[]) v W'→v=.bool true∧Below W.heap.size W W':=by
  rintro v W' ⟨d,X',rfl,_,hs,hd,rfl,_⟩;refine ⟨hd,hs.os,hs.tape,hs.output.1,hs.size,fun k hk=>hs.frame k hk fun id db g h=>by simp [eC] at h⟩
 rcases hc (eC W) args.toList rfl (LC W) ⟨W,⟨hsh,hsd⟩,fun b hb=>⟨hb,rfl⟩⟩ hr with ⟨_,h⟩|⟨v,w',h,_⟩
 ·exact h.mono fun e W' ⟨v,he,hv⟩=>by
   obtain ⟨rfl,h2⟩:=key v W' hv;exact ⟨he,h2⟩
 ·exfalso;obtain ⟨c,hc⟩:=Option.isSome_iff_exists.1 hb;have hn':¬ fn.name = "runtime.NumGoroutine" := by simpa using hn
  simp [callFunc,hf,hn',hc] at h
theorem sK (hl:laidOutB P=true) {W W':World} {sp':Nat→Bool} (hb:Below W.heap.size W W'):∀ {ts:List TypeId} {vs:List Value} {ds:List (DataW H)} {ps:List MemPlace},(∀ t∈ts,P.readableRec t=true∧t<P.types.size) →
  DataW.TrodAll enc P W 0 (fun _=>true) true ts vs ds ps→(∀ p∈ps,p.block<W.heap.size)→(∀ p∈ps,sp' p.block=true)→DataW.TrodAll enc P W' 0 sp' true ts vs ds ps
 | [],[],[],_,_,h,_,_=>h
 | t::ts,v::vs,d::ds,ps,hr,h,hlt,hs=>by
  obtain ⟨p,q,h1,h2,rfl⟩:=h;have ht:=hr t List.mem_cons_self;exact ⟨p,q,WideElems.Trod_stays hl ht.1 ht.2 h1 (fun x hx=>hb.same (hlt x (List.mem_append_left _ hx))) (fun x hx=>hs x (List.mem_append_left _ hx)),
   sK hl hb (fun t ht=>hr t (List.mem_cons_of_mem _ ht)) h2 (fun x hx=>hlt x (List.mem_append_right _ hx)) (fun x hx=>hs x (List.mem_append_right _ hx)),rfl⟩
 | [],_::_,_,_,_,h,_,_=>by cases h
 | [],[],_::_,_,_,h,_,_=>by cases h
 | _::_,[],_,_,_,h,_,_=>by cases h
 | _::_,_::_,[],_,_,h,_,_=>by cases h
theorem zGR {fn:Func} {s:ChangeSpec} {handsOn again fresh:Bool} {W W':World} {args:Array Value} {ds gs:List (DataW H)} {before:List MemPlace} {tb:Nat} (hl:laidOutB P=true) (hvars:s.vars=[])
  (hW:DataW.Whole enc P fn.params.toList s.vars false W args.toList ds gs before) (hrd:∀ t∈fn.params.toList,P.readableRec t=true∧t<P.types.size) (hres:fn.resultTypes = #[tb]) (hbool:P.underlying tb=some .bool)
  (hfn:s.fn H (ds++gs) = { results:=[.lit (.bool true)],args:=ds }) (hb:Below W.heap.size W W'):s.post enc P fn false fresh handsOn again W args (.bool true) W':=by
 have hlt:∀ p∈before,p.block<W.heap.size:=fun p hp=>hW.lt p hp;have hold:∀ p∈before,(fun b=>decide (b<W.heap.size)) p.block=true:=fun p hp=>by simpa using hlt p hp
 have hW0:=hW;obtain ⟨pa,pv,hA,hV,hps,hz,hn⟩:=hW0;rw [hvars] at hV;obtain ⟨rfl,rfl⟩:=trodVars_none hV;rw [List.append_nil] at hps;subst hps;have hargs:∀ sp:Nat→Bool,(∀ p∈before,sp p.block=true)→DataW.TrodAll enc P W' 0 sp true fn.params.toList args.toList ds before:=fun sp hs=>sK hl hb hrd hA hlt hs;have hr:∀ (b:Nat) (sp:Nat→Bool) (hd:Bool),DataW.TrodAll enc P W' b sp hd fn.resultTypes.toList ((Value.bool true).resultList fn.resultTypes.size) [.lit (.bool true)] []:=by
  intro b sp hd;rw [hres];exact trodAll_mk1 ⟨1,by simp [DataW.trod,Value.cells,hbool]⟩
 have hok:∀ (j:Nat) (t:TypeId) (r:Value),fn.resultTypes[j]? = some t→((Value.bool true).resultList fn.resultTypes.size)[j]? = some r→Value.okWide P W' .any 0 t r:=by
  rw [hres];intro j t r h1 h2;cases j with
  | zero =>
   simp only [Array.size_singleton,Value.resultList] at h2;simp at h1 h2;subst h1;subst h2;simp [Value.okWide,hbool,Cell.okWide,Cell.ok]
  | succ j=>simp at h1
 refine ⟨ds,[],before,[],before,[],hW,?_,?_,?_,World.keptBut_mono (fun p hp=>⟨hp,.inr (by simpa using hp)⟩) (hb.frame (·∈before)),fun _=>?_⟩
 ·rw [hfn];exact hr _ _ _
 ·rw [hfn];exact hargs _ hold
 ·rw [hvars,hfn];rfl
 ·refine ⟨hok,_,[],([]++before)++[],⟨[]++before,[],trodAll_append (hargs _ (fun _ _=>rfl)) (hr _ _ _),(by rw [hvars];exact rfl),rfl,?_,?_⟩,?_⟩
  ·intro b off hp;have hin:MemPlace.cell b off∈before:=by simpa using hp
   rw [hb.frozen (hlt _ hin)];exact hz b off hin
  ·intro ha;cases ha
  ·intro p hp _;simpa using hp
theorem MI {l:List TypeId} (h:(l.all fun t=>P.readableRec t && decide (t<P.types.size))=true):∀ t∈l,P.readableRec t=true∧t<P.types.size:=fun t ht=>by
 have:=List.all_eq_true.1 h t ht;simpa using this
theorem TS:∀ {es:List (List PV)},(∀ x∈es,∃ n,x=[.i .u8 n]∧(Lit.int .u8 n).wf=true)→∃ l,es=bO l∧l.length=es.length
 | [],_=>⟨[],rfl,rfl⟩
 | x::es,h=>by
  obtain ⟨n,rfl,hn⟩:=h x List.mem_cons_self;obtain ⟨l,rfl,hl⟩:=TS fun y hy=>h y (List.mem_cons_of_mem _ hy);have hx:0≤n∧n≤255:=by simpa [Lit.wf,IntKind.min,IntKind.max,IntKind.signed,IntKind.bits] using hn
  exact ⟨UInt8.ofNat n.toNat::l,zK2 n l hx.1 hx.2,by simp [hl]⟩
end
end Go.Dm
end
end
