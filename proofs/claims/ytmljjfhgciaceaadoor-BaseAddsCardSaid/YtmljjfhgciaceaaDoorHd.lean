import Derived.Lib.Hide
import Derived.KernelRfl
namespace Go.Proofs.YtmljjfhgciaceaaDoor
open Go.RowKit
variable {p:Prop}
theorem hdd (h:p):RowKit.Hid p:=h
theorem af (h:p:=by omega):p:=h
theorem aW (h:p:=by decide):p:=h
theorem bj (h:p:=by simp):p:=h
theorem bT (h:p:=by kernel_rfl):p:=h
theorem aH {n:Nat}:n<=n:=Nat.le_refl n
theorem bP.{u} {α:Sort u} (a:α):∃x,x=a:=⟨a,rfl⟩
theorem bt.{u} {α:Sort u} (a:α):∃x,a=x:=⟨a,rfl⟩
abbrev ah (w v:World):Prop:=Below w.heap.size w v
theorem km:type_of% @Nat.le_refl:=@Nat.le_refl
theorem eI:type_of% @Array.getElem?_eq_some_iff:=@Array.getElem?_eq_some_iff
theorem ai:type_of% @if_neg:=@if_neg
theorem ar:type_of% @if_pos:=@if_pos
theorem aL:type_of% @And.intro:=@And.intro
theorem aI:type_of% @Below.refl:=@Below.refl
theorem iy:type_of% @of_decide_eq_true:=@of_decide_eq_true
theorem cY:type_of% @Option.some.inj:=@Option.some.inj
theorem dO:type_of% @List.length_append:=@List.length_append
theorem kK:type_of% @List.take_succ_eq_append_getElem:=@List.take_succ_eq_append_getElem
theorem di:type_of% @Bool.and_eq_true_iff:=@Bool.and_eq_true_iff
theorem lI:type_of% @List.take_of_length_le:=@List.take_of_length_le
theorem gJ:type_of% @List.getElem?_eq_some_iff:=@List.getElem?_eq_some_iff
theorem fP:type_of% @List.getElem_mem:=@List.getElem_mem
theorem eP:type_of% @List.length_take:=@List.length_take
theorem gp:type_of% @List.length_cons:=@List.length_cons
theorem jv:type_of% @List.append_assoc:=@List.append_assoc
theorem jd:type_of% @Nat.zero_le:=@Nat.zero_le
theorem fk:type_of% @List.mem_cons:=@List.mem_cons
theorem kW:type_of% @Below.heap_alloc:=@Below.heap_alloc
theorem gQ:type_of% @List.flatMap_cons:=@List.flatMap_cons
theorem yj:type_of% @Int.tmod_eq_emod_of_nonneg:=@Int.tmod_eq_emod_of_nonneg
theorem mn:type_of% @List.mem_filter:=@List.mem_filter
theorem Ql:type_of% @of_decide_eq_false:=@of_decide_eq_false
theorem nL:type_of% @List.getElem?_eq_getElem:=@List.getElem?_eq_getElem
theorem nK:type_of% @List.all_eq_true:=@List.all_eq_true
theorem ik:type_of% @Nat.le_trans:=@Nat.le_trans
theorem sH:type_of% @List.length_filter_le:=@List.length_filter_le
theorem mR:type_of% @List.mem_singleton:=@List.mem_singleton
theorem py:type_of% @List.pairwise_iff_getElem:=@List.pairwise_iff_getElem
theorem adU:type_of% @List.getElem_of_mem:=@List.getElem_of_mem
theorem wO:type_of% @List.eq_nil_of_length_eq_zero:=@List.eq_nil_of_length_eq_zero
theorem vd:type_of% @List.drop_eq_getElem_cons:=@List.drop_eq_getElem_cons
theorem oL:type_of% @List.append_nil:=@List.append_nil
theorem mQ:type_of% @Nat.lt_of_lt_of_le:=@Nat.lt_of_lt_of_le
theorem oJ:type_of% @List.length_map:=@List.length_map
theorem rG:type_of% @List.filter_cons_of_pos:=@List.filter_cons_of_pos
theorem qB:type_of% @List.filter_cons_of_neg:=@List.filter_cons_of_neg
theorem kJ:type_of% @List.mem_append:=@List.mem_append
theorem iW:type_of% @Nat.zero_add:=@Nat.zero_add
theorem wN:type_of% @List.mem_map:=@List.mem_map
theorem rF:type_of% @List.filter_append:=@List.filter_append
theorem wM:type_of% @List.mem_of_mem_take:=@List.mem_of_mem_take
theorem jo:type_of% @not_not_intro:=@not_not_intro
theorem Bf:type_of% @Int.tdiv_eq_ediv_of_nonneg:=@Int.tdiv_eq_ediv_of_nonneg
theorem Uc:type_of% @Array.mem_of_getElem?:=@Array.mem_of_getElem?
theorem oI:type_of% @List.length_drop:=@List.length_drop
theorem KH:type_of% @Int.mul_le_mul_of_nonneg_left:=@Int.mul_le_mul_of_nonneg_left
theorem wL:type_of% @List.take_append_drop:=@List.take_append_drop
theorem aez:type_of% @List.pairwise_cons:=@List.pairwise_cons
theorem qg:type_of% @List.getElem?_take:=@List.getElem?_take
theorem wJ:type_of% @decide_eq_false:=@decide_eq_false
theorem qd:type_of% @Below.heap_setCell:=@Below.heap_setCell
theorem uZ:type_of% @List.mem_of_mem_drop:=@List.mem_of_mem_drop
theorem Be:type_of% @List.drop_eq_nil_of_le:=@List.drop_eq_nil_of_le
theorem Aq:type_of% @List.take_append_of_le_length:=@List.take_append_of_le_length
theorem tR:type_of% @List.flatMap_append:=@List.flatMap_append
theorem tQ:type_of% @List.length_set:=@List.length_set
theorem Ap:type_of% @List.map_append:=@List.map_append
theorem lH:type_of% @Nat.lt_or_ge:=@Nat.lt_or_ge
theorem Ao:type_of% @List.getElem?_append_left:=@List.getElem?_append_left
theorem yi:type_of% @decide_eq_true_eq:=@decide_eq_true_eq
theorem iw:type_of% @Option.some.injEq:=@Option.some.injEq
theorem jM:type_of% @Prod.mk.injEq:=@Prod.mk.injEq
theorem wI:type_of% @List.getElem_take:=@List.getElem_take
theorem Bc:type_of% @List.getElem?_set_ne:=@List.getElem?_set_ne
theorem Am:type_of% @List.perm_iff_count:=@List.perm_iff_count
end Go.Proofs.YtmljjfhgciaceaaDoor
