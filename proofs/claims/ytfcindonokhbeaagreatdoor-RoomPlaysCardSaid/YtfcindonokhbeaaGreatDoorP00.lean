/- Part 1 of roomPlays_card. No condition. -/
import Derived.WalkKit
set_option linter.all false
set_option maxRecDepth 100000
set_option maxHeartbeats 0
section
namespace Go.Dm
def qd{p:Prop}(h:p:=by omega):p:=h
def qf{p:Prop}(h:p:=by simp only;omega):p:=h
def qg{p:Prop}(h:p:=by kernel_rfl):p:=h
def qh{p:Prop}(h:p:=by decide):p:=h
def qi{p:Prop}(h:p:=by decide +kernel):p:=h
def qj{p:Prop}(h:p:=by rw[hX];rfl):p:=h
def qk{p:Prop}(h:p:=by simp;omega):p:=h
def ql{p:Prop}(h:p:=by simp):p:=h
def qm{p:Prop}(h:p:=by first|rfl|(rw[hX];rfl)):p:=h
def qn{p:Prop}(h:p:=by simp[Op.operands]):p:=h
def qo{p:Prop}(h:p:=by simp[bR,cL,bA,bD,aX,]):p:=h
def qp{p:Prop}(h:p:=by simp[execOp,ho]):p:=h
def qq{p:Prop}(h:p:=by unfold dP;exact hpK):p:=h
def qt{p:Prop}(h:p:=by unfold dP bC;exact hpK):p:=h
def qu{p:Prop}(h:p:=by rw[hk];rfl):p:=h
def qv{p:Prop}(h:p:=by simp only[Ctx.join,bo,di];omega):p:=h
def qw{p:Prop}(h:p:=by simp_all):p:=h
def qx{p:Prop}(h:p:=by simp only[Ctx.rebase];rw[au (by omega)]):p:=h
def qy{p:Prop}(h:p:=by grind [IntKind.wrap,IntKind.bits,IntKind.signed]):p:=h
def qz{p:Prop}(h:p:=by simp only[binOp,ne_eq,ng,ax];rfl):p:=h
def q9{p:Prop}(h:p:=by first|(simp;done)|(simp;omega)):p:=h
def ra{p:Prop}(h:p:=by unfold maxLen;omega):p:=h
def rb{p:Prop}(h:p:=by simp[Ctx.push]):p:=h
def re{p:Prop}(h:p:=by simp[Ctx.rebase]):p:=h
def rh{p:Prop}(h:p:=by rw[Go.Dm.encS_len,bo]):p:=h
def ri{p:Prop}(h:p:=by rw[cr];omega):p:=h
def rj{p:Prop}(h:p:=by simp only[bw];omega):p:=h
def rk{p:Prop}(h:p:=by simp only[bo];omega):p:=h
def rl{p:Prop}(h:p:=by grind [List.take_add_one]):p:=h
def rm{p:Prop}(h:p:=by simp[bS]):p:=h
def rp{p:Prop}(h:p:=by rfl):p:=h
abbrev Bb:=List Value
abbrev Ba:=List UInt8
def au:=@if_neg
def av:=@Bool.false_eq_true
def aw:=@if_pos
def ax:=@if_false
def ay:=@List.getElem?_eq_getElem
def az:=@if_true
def bc:=@Nat.zero_le
def bg:=@Nat.le_refl
def bh:=@Bool.not_true
def bj:=@Nat.le_trans
def bn:=@Bool.and_eq_true
def bo:=@List.length_append
def br:=@Bool.not_false
def bu:=@List.take_of_length_le
def bw:=@List.length_cons
def bx:=@List.mem_cons
def bz:=@List.getElem?_eq_some_iff
def b0:=@Option.some.injEq
def cc:=@Nat.lt_or_ge
def cg:=@List.mem_map
def ch:=@List.getElem_mem
def cr:=@List.length_take
def cu:=@List.mem_cons_of_mem
def cw:=@List.drop_of_length_le
def cy:=@Bool.true_and
def cz:=@List.mem_cons_self
def c9:=@List.mem_append
def da:=@List.length_nil
def df:=@decide_eq_true
def dg:=@Bool.not_eq_true'
def dh:=@List.append_nil
def di:=@List.length_map
def dj:=@List.take_length
def dm:=@List.take_add_one
def dn:=@Bool.or_false
def dp:=@Bool.false_and
def dq:=@beq_iff_eq
def dr:=@List.mem_of_getElem?
def dt:=@List.map_cons
def du:=@Option.map_eq_some_iff
def dv:=@List.getElem?_map
def dw:=@Bool.false_or
def dx:=@List.pairwise_cons
def dy:=@List.mem_filter
def dz:=@List.all_cons
def ed:=@List.getD_eq_getElem?_getD
def eh:=@List.mem_iff_getElem?
def ei:=@List.length_filter_le
def ej:=@Bool.or_true
def ep:=@List.mem_singleton
def er:=@decide_eq_false
def eu:=@List.getElem?_cons_zero
def ew:=@decide_eq_true_eq
def ez:=@Nat.add_mul
def e8:=@Bool.true_or
def e9:=@List.nil_append
def fa:=@beq_self_eq_true
def fb:=@List.all_eq_true
def fc:=@List.filter_cons
def fe:=@Option.getD_some
def ff:=@List.length_set
def fg:=@List.mem_append_left
def fh:=@List.length_drop
def fj:=@Bool.or_eq_true
def fk:=@List.cons.injEq
def fm:=@Nat.zero_add
def fp:=@List.getElem?_cons_succ
def fq:=@List.filter_append
def fr:=@eq_true
def fu:=@List.getElem?_append_left
def fw:=@List.filter_eq_self
def fx:=@Option.some.inj
def fy:=@Int.emod_nonneg
def gf:=@List.append_assoc
def gg:=@List.pairwise_iff_getElem
def gh:=@List.map_append
def gi:=@Bool.eq_iff_iff
def gk:=@Nat.le_of_ble_eq_true
def gl:=@Int.emod_lt_of_pos
def gm:=@Option.isSome_none
def gn:=@List.cons_append
def gp:=@Bool.and_true
def gq:=@List.getElem?_take
def gr:=@Nat.mul_le_mul_right
def gu:=@List.getElem?_drop
def gv:=@List.getElem?_append_right
def gw:=@List.map_nil
def gx:=@List.foldl_cons
def gy:=@Option.isSome_some
def gz:=@Bool.and_false
def ia:=@Array.getElem?_modify
def ib:=@List.drop_eq_getElem_cons
def ic:=@List.pairwise_append
def ie:=@List.mem_iff_getElem
def ig:=@Nat.add_assoc
def ij:=@Bool.or_eq_false_iff
def ik:=@decide_eq_false_iff_not
def il:=@List.getElem?_set_ne
def im:=@Array.getElem?_eq_some_iff
def iq:=@List.length_mergeSort
def ir:=@List.ext_getElem?
def iu:=@Array.getD_eq_getD_getElem?
def iv:=@Nat.lt_of_lt_of_le
def iw:=@Bool.or_self
def ix:=@Int.toNat_natCast
def iy:=@Nat.one_mul
def iz:=@Array.getElem?_eq_getElem
def i6:=@true_and
def i7:=@List.set_cons_zero
def ja:=@List.nodup_cons
def jb:=@List.getElem?_eq_none
def jc:=@List.mem_flatMap
def je:=@Nat.add_zero
def jf:=@Array.ext'
def jg:=@Nat.sub_self
def jh:=@List.length_take_le
def ji:=@beq_eq_false_iff_ne
def jj:=@List.any_eq_true
def jl:=@Array.getElem?_toList
def jm:=@and_false
def jn:=@List.map_set
def jo:=@not_or
def jq:=@List.flatMap_cons
def jr:=@List.append_of_mem
def js:=@List.filter_eq_nil_iff
def jt:=@of_decide_eq_false
def ju:=@List.all_nil
def jv:=@List.take_append_drop
def jw:=@and_true
def jx:=@Array.getElem?_eq_none
def jy:=@List.mem_append_right
def jz:=@List.size_toArray
def j0:=@List.eq_nil_of_length_eq_zero
def j5:=@Option.bind_some
def j6:=@List.getElem?_set_self
def j7:=@List.Pairwise.sublist
def j8:=@List.length_eq_zero_iff
def j9:=@List.drop_zero
def ka:=@List.take_left'
def kc:=@List.getElem?_concat_length
def kd:=@Bool.not_eq_false'
def ke:=@Option.getD_none
def kg:=@List.any_cons
def kh:=@Nat.mul_one
def ki:=@Bool.not_not
def kj:=@List.set_getElem_self
def kl:=@UInt8.toNat_inj
def km:=@List.getElem_take
def kn:=@List.set_cons_succ
def ko:=@List.drop_left
def kp:=@List.pairwise_map
def kq:=@Prod.ext
def kr:=@List.find?_eq_none
def ku:=@List.contains_cons
def kv:=@List.drop_drop
def kx:=@Nat.sub_zero
def ky:=@List.pairwise_singleton
def kz:=@List.mem_reverse
def lf:=@List.mem_replicate
def lg:=@List.mem_of_mem_take
def lh:=@Bool.eq_false_iff
def lj:=@Int.zero_add
def lp:=@decide_not
def lq:=@Nat.min_eq_left
def lr:=@List.set_append_right
def lu:=@List.take_zero
def lv:=@List.foldl_nil
def lx:=@bne_self_eq_false
def ly:=@List.all_append
def lz:=@List.length_replicate
def l4:=@List.mergeSort_perm
def l5:=@Option.isSome_iff_exists
def l6:=@Array.size_append
def l7:=@decide_true
def l8:=@decide_false
def l9:=@Bool.not_eq_false
def ma:=@List.drop_length
def mb:=@List.mapM_cons
def me:=@Nat.zero_mul
def mf:=@List.mem_of_mem_drop
def mg:=@Nat.le_succ
def mh:=@List.getElem?_set
def mi:=@List.take_sublist
def mj:=@List.find?_some
def ml:=@List.mem_of_find?_eq_some
def mn:=@List.filter_nil
def mo:=@List.flatten_cons
def mq:=@List.length_singleton
def mr:=@Array.getElem?_append_left
def mu:=@List.take_nil
def mw:=@List.any_eq_false
def my:=@Nat.le_of_eq
def mz:=@List.find?_cons
def nc:=@List.foldl_append
def nf:=@Option.map_some
def ng:=@not_true_eq_false
def nh:=@List.map_congr_left
def ni:=@List.flatten_append
def nj:=@decide_eq_decide
def np:=@List.pairwise_mergeSort
def nq:=@getElem!_pos
def nu:=@List.flatMap_nil
def nv:=@List.filter_congr
def nw:=@List.all_eq_false
def ny:=@Bool.not_eq_true
def nz:=@Nat.le_add_right
def oa:=@List.Perm.eq_of_pairwise
def oc:=@List.not_mem_nil
def od:=@List.take_set
def oe:=@Int.fdiv_eq_ediv_of_nonneg
def og:=@List.takeWhile_sublist
def oh:=@List.drop_sublist
def oi:=@Nat.le_of_not_lt
def oo:=@List.any_nil
def oq:=@List.getElem?_toArray
def ot:=@Nat.eq_zero_or_pos
def ou:=@List.takeWhile_cons
def ow:=@List.set_append_left
def oz:=@List.drop_succ_cons
def o0:=@Nat.lt_trichotomy
def o3:=@List.perm_append_comm
def o4:=@List.filter_filter
def o5:=@List.mergeSort_nil
def o6:=@List.length_pos_iff
def o7:=@List.nodup_append
def o8:=@List.length_range
def o9:=@Array.getElem?_push
def pc:=@Nat.eq_of_beq_eq_true
def pe:=@Nat.zero_lt_succ
def pf:=@List.set_eq_of_length_le
def pg:=@of_decide_eq_true
def ph:=@Int.tdiv_eq_ediv_of_nonneg
def pj:=@List.map_mergeSort
def pk:=@List.length_reverse
def po:=@List.zipIdx_cons
def pq:=@List.toList_toArray
def pr:=@Array.toList_append
def pt:=@List.filter_sublist
def pw:=@List.getElem_idxOf
def px:=@Option.bind_eq_some_iff
def py:=@Array.getElem?_setIfInBounds_self_of_lt
def p9:=@Array.size_setIfInBounds
def qa:=@List.set_eq_take_append_cons_drop
def qb:=@List.takeWhile_append_dropWhile
def qc:=@Array.getElem?_setIfInBounds_ne
def ah(a b:Int)(h:a<b:=by omega):decide (a<b)=true:=decide_eq_true h
def aj(a b:Int)(h:¬a<b:=by omega):decide (a<b)=false:=decide_eq_false h
inductive SV where
 | i (n:Int)
 | s (l:Ba)
def zJq:List Int:=[1,1,1,2,2,2,3,3,4,5,6,7,7,8,9,9,10,11,11,12,13,14,15,15]
def zCP:List Ba:=[[109,97,105,110],[118,49],[118,50],[119,49],[119,50],[118,51],[109,97,105,110]]
def zCO:Nat->List SV
 | 0=>zCP.map .s
 | 1=>zJq.map .i
 | _=>[]
end Go.Dm
end
