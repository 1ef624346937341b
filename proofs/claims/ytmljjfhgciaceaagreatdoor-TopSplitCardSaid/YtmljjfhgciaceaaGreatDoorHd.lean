import Derived.Lib.Hide
import Derived.KernelRfl
namespace Go.Proofs.YtmljjfhgciaceaaGreatDoor
open Go.RowKit
variable {p:Prop}
theorem hdd (h:p):RowKit.Hid p:=h
theorem af (h:p:=by omega):p:=h
theorem aY (h:p:=by decide):p:=h
theorem bt (h:p:=by simp):p:=h
theorem cv (h:p:=by kernel_rfl):p:=h
theorem aI {n:Nat}:n<=n:=Nat.le_refl n
theorem bR.{u} {α:Sort u} (a:α):∃x,x=a:=⟨a,rfl⟩
theorem bC.{u} {α:Sort u} (a:α):∃x,a=x:=⟨a,rfl⟩
abbrev ah (w v:World):Prop:=Below w.heap.size w v
theorem kT:type_of% @Nat.le_refl:=@Nat.le_refl
theorem eP:type_of% @Array.getElem?_eq_some_iff:=@Array.getElem?_eq_some_iff
theorem ai:type_of% @if_neg:=@if_neg
theorem ar:type_of% @if_pos:=@if_pos
theorem aO:type_of% @And.intro:=@And.intro
theorem aL:type_of% @Below.refl:=@Below.refl
theorem iY:type_of% @of_decide_eq_true:=@of_decide_eq_true
theorem dt:type_of% @Option.some.inj:=@Option.some.inj
theorem eO:type_of% @List.length_append:=@List.length_append
theorem mf:type_of% @List.take_succ_eq_append_getElem:=@List.take_succ_eq_append_getElem
theorem dn:type_of% @Bool.and_eq_true_iff:=@Bool.and_eq_true_iff
theorem kI:type_of% @List.take_of_length_le:=@List.take_of_length_le
theorem gJ:type_of% @List.getElem?_eq_some_iff:=@List.getElem?_eq_some_iff
theorem gj:type_of% @List.getElem_mem:=@List.getElem_mem
theorem fx:type_of% @List.length_take:=@List.length_take
theorem fR:type_of% @List.length_cons:=@List.length_cons
theorem jn:type_of% @List.append_assoc:=@List.append_assoc
theorem jf:type_of% @Nat.zero_le:=@Nat.zero_le
theorem eZ:type_of% @List.mem_cons:=@List.mem_cons
theorem lI:type_of% @Below.heap_alloc:=@Below.heap_alloc
theorem gI:type_of% @List.flatMap_cons:=@List.flatMap_cons
theorem xR:type_of% @Int.tmod_eq_emod_of_nonneg:=@Int.tmod_eq_emod_of_nonneg
theorem ju:type_of% @List.mem_filter:=@List.mem_filter
theorem XW:type_of% @of_decide_eq_false:=@of_decide_eq_false
theorem oG:type_of% @List.getElem?_eq_getElem:=@List.getElem?_eq_getElem
theorem py:type_of% @List.all_eq_true:=@List.all_eq_true
theorem im:type_of% @Nat.le_trans:=@Nat.le_trans
theorem tQ:type_of% @List.length_filter_le:=@List.length_filter_le
theorem ny:type_of% @List.mem_singleton:=@List.mem_singleton
theorem px:type_of% @List.pairwise_iff_getElem:=@List.pairwise_iff_getElem
theorem kS:type_of% @List.getElem_of_mem:=@List.getElem_of_mem
theorem xQ:type_of% @List.eq_nil_of_length_eq_zero:=@List.eq_nil_of_length_eq_zero
theorem vh:type_of% @List.drop_eq_getElem_cons:=@List.drop_eq_getElem_cons
theorem pq:type_of% @List.append_nil:=@List.append_nil
theorem mR:type_of% @Nat.lt_of_lt_of_le:=@Nat.lt_of_lt_of_le
theorem po:type_of% @List.length_map:=@List.length_map
theorem tP:type_of% @List.filter_cons_of_pos:=@List.filter_cons_of_pos
theorem sH:type_of% @List.filter_cons_of_neg:=@List.filter_cons_of_neg
theorem kH:type_of% @List.mem_append:=@List.mem_append
theorem iX:type_of% @Nat.zero_add:=@Nat.zero_add
theorem pn:type_of% @List.mem_map:=@List.mem_map
theorem sG:type_of% @List.filter_append:=@List.filter_append
theorem xP:type_of% @List.mem_of_mem_take:=@List.mem_of_mem_take
theorem iM:type_of% @not_not_intro:=@not_not_intro
theorem AO:type_of% @Int.tdiv_eq_ediv_of_nonneg:=@Int.tdiv_eq_ediv_of_nonneg
theorem ac8:type_of% @Array.mem_of_getElem?:=@Array.mem_of_getElem?
theorem oF:type_of% @List.length_drop:=@List.length_drop
theorem Ky:type_of% @Int.mul_le_mul_of_nonneg_left:=@Int.mul_le_mul_of_nonneg_left
theorem wL:type_of% @List.take_append_drop:=@List.take_append_drop
theorem rE:type_of% @List.pairwise_cons:=@List.pairwise_cons
theorem qE:type_of% @List.getElem?_take:=@List.getElem?_take
theorem tO:type_of% @decide_eq_false:=@decide_eq_false
theorem qd:type_of% @Below.heap_setCell:=@Below.heap_setCell
theorem vg:type_of% @List.mem_of_mem_drop:=@List.mem_of_mem_drop
theorem AL:type_of% @List.drop_eq_nil_of_le:=@List.drop_eq_nil_of_le
theorem zY:type_of% @List.take_append_of_le_length:=@List.take_append_of_le_length
theorem sF:type_of% @List.flatMap_append:=@List.flatMap_append
theorem zX:type_of% @List.length_set:=@List.length_set
theorem wJ:type_of% @List.map_append:=@List.map_append
theorem lH:type_of% @Nat.lt_or_ge:=@Nat.lt_or_ge
theorem zW:type_of% @List.getElem?_append_left:=@List.getElem?_append_left
theorem wI:type_of% @decide_eq_true_eq:=@decide_eq_true_eq
theorem iE:type_of% @Option.some.injEq:=@Option.some.injEq
theorem jM:type_of% @Prod.mk.injEq:=@Prod.mk.injEq
theorem wH:type_of% @List.getElem_take:=@List.getElem_take
theorem AK:type_of% @List.getElem?_set_ne:=@List.getElem?_set_ne
theorem zV:type_of% @List.perm_iff_count:=@List.perm_iff_count
end Go.Proofs.YtmljjfhgciaceaaGreatDoor
