import Derived.Lib.Hide
import Derived.KernelRfl
import Derived.IntWalk
import Derived.Laws.Rows
import Derived.Laws.OwnMore
import Derived.StillTail
import Derived.Orders
namespace Go.Proofs.YtmljjfhgciaceaaGreatDoor
open Go.RowKit
variable {p:Prop}
theorem ag (h:p):RowKit.Hid p:=h
theorem ai (h:p:=by omega):p:=h
theorem bY (h:p:=by decide):p:=h
theorem bh (h:p:=by simp):p:=h
theorem cV (h:p:=by kernel_rfl):p:=h
theorem aO {n:Nat}:n<=n:=Nat.le_refl n
theorem cd.{u} {α:Sort u} (a:α):∃x,x=a:=⟨a,rfl⟩
theorem bG.{u} {α:Sort u} (a:α):∃x,a=x:=⟨a,rfl⟩
abbrev aq (w v:World):Prop:=Below w.heap.size w v
theorem nu:type_of% @Nat.le_refl:=@Nat.le_refl
theorem eJ:type_of% @Array.getElem?_eq_some_iff:=@Array.getElem?_eq_some_iff
theorem ar:type_of% @if_neg:=@if_neg
theorem aw:type_of% @if_pos:=@if_pos
theorem aJ:type_of% @And.intro:=@And.intro
theorem aW:type_of% @Below.refl:=@Below.refl
theorem kD:type_of% @of_decide_eq_true:=@of_decide_eq_true
theorem dh:type_of% @Option.some.inj:=@Option.some.inj
theorem dF:type_of% @List.length_append:=@List.length_append
theorem ja:type_of% @List.take_succ_eq_append_getElem:=@List.take_succ_eq_append_getElem
theorem dQ:type_of% @Bool.and_eq_true_iff:=@Bool.and_eq_true_iff
theorem iM:type_of% @List.take_of_length_le:=@List.take_of_length_le
theorem dW:type_of% @List.getElem?_eq_some_iff:=@List.getElem?_eq_some_iff
theorem eZ:type_of% @List.getElem_mem:=@List.getElem_mem
theorem gh:type_of% @List.length_take:=@List.length_take
theorem gD:type_of% @List.length_cons:=@List.length_cons
theorem iT:type_of% @List.append_assoc:=@List.append_assoc
theorem eY:type_of% @Nat.zero_le:=@Nat.zero_le
theorem fy:type_of% @List.mem_cons:=@List.mem_cons
theorem gy:type_of% @Below.heap_alloc:=@Below.heap_alloc
theorem fO:type_of% @List.flatMap_cons:=@List.flatMap_cons
theorem tJ:type_of% @Int.tmod_eq_emod_of_nonneg:=@Int.tmod_eq_emod_of_nonneg
theorem nt:type_of% @List.mem_filter:=@List.mem_filter
theorem Zj:type_of% @of_decide_eq_false:=@of_decide_eq_false
theorem oZ:type_of% @List.getElem?_eq_getElem:=@List.getElem?_eq_getElem
theorem rH:type_of% @List.all_eq_true:=@List.all_eq_true
theorem fZ:type_of% @Nat.le_trans:=@Nat.le_trans
theorem ub:type_of% @List.length_filter_le:=@List.length_filter_le
theorem oY:type_of% @List.mem_singleton:=@List.mem_singleton
theorem sI:type_of% @List.pairwise_iff_getElem:=@List.pairwise_iff_getElem
theorem nr:type_of% @List.getElem_of_mem:=@List.getElem_of_mem
theorem yX:type_of% @List.eq_nil_of_length_eq_zero:=@List.eq_nil_of_length_eq_zero
theorem qI:type_of% @List.drop_eq_getElem_cons:=@List.drop_eq_getElem_cons
theorem nQ:type_of% @List.append_nil:=@List.append_nil
theorem oI:type_of% @Nat.lt_of_lt_of_le:=@Nat.lt_of_lt_of_le
theorem oX:type_of% @List.length_map:=@List.length_map
theorem uS:type_of% @List.filter_cons_of_pos:=@List.filter_cons_of_pos
theorem uR:type_of% @List.filter_cons_of_neg:=@List.filter_cons_of_neg
theorem kW:type_of% @List.mem_append:=@List.mem_append
theorem iR:type_of% @Nat.zero_add:=@Nat.zero_add
theorem ua:type_of% @List.mem_map:=@List.mem_map
theorem qH:type_of% @List.filter_append:=@List.filter_append
theorem uQ:type_of% @List.mem_of_mem_take:=@List.mem_of_mem_take
theorem jw:type_of% @not_not_intro:=@not_not_intro
theorem Dw:type_of% @Int.tdiv_eq_ediv_of_nonneg:=@Int.tdiv_eq_ediv_of_nonneg
theorem ahM:type_of% @Array.mem_of_getElem?:=@Array.mem_of_getElem?
theorem qG:type_of% @List.length_drop:=@List.length_drop
theorem PS:type_of% @Int.mul_le_mul_of_nonneg_left:=@Int.mul_le_mul_of_nonneg_left
theorem rG:type_of% @List.take_append_drop:=@List.take_append_drop
theorem tZ:type_of% @List.pairwise_cons:=@List.pairwise_cons
theorem rF:type_of% @List.getElem?_take:=@List.getElem?_take
theorem xA:type_of% @decide_eq_false:=@decide_eq_false
theorem xy:type_of% @Below.heap_setCell:=@Below.heap_setCell
theorem uP:type_of% @List.mem_of_mem_drop:=@List.mem_of_mem_drop
theorem zX:type_of% @List.drop_eq_nil_of_le:=@List.drop_eq_nil_of_le
theorem Dv:type_of% @List.take_append_of_le_length:=@List.take_append_of_le_length
theorem pK:type_of% @List.flatMap_append:=@List.flatMap_append
theorem xx:type_of% @List.length_set:=@List.length_set
theorem sH:type_of% @List.map_append:=@List.map_append
theorem mA:type_of% @Nat.lt_or_ge:=@Nat.lt_or_ge
theorem rE:type_of% @List.getElem?_append_left:=@List.getElem?_append_left
theorem Du:type_of% @decide_eq_true_eq:=@decide_eq_true_eq
theorem iJ:type_of% @Option.some.injEq:=@Option.some.injEq
theorem kC:type_of% @Prod.mk.injEq:=@Prod.mk.injEq
theorem zW:type_of% @List.getElem_take:=@List.getElem_take
theorem zV:type_of% @List.getElem?_set_ne:=@List.getElem?_set_ne
theorem Dt:type_of% @List.perm_iff_count:=@List.perm_iff_count
theorem bI:type_of% @IntWalk.i64_in:=@IntWalk.i64_in
theorem cH:type_of% @heap_setCell_other:=@heap_setCell_other
theorem bW:type_of% @bodyPost_ret:=@bodyPost_ret
theorem oH:type_of% @World.cell?_of_block:=@World.cell?_of_block
theorem oV:type_of% @World.ownsRow_nil:=@World.ownsRow_nil
theorem xw:type_of% @List.getElem?_append_right:=@List.getElem?_append_right
theorem uO:type_of% @List.mem_of_getElem?:=@List.mem_of_getElem?
theorem yV:type_of% @World.ownsRow.stored:=@World.ownsRow.stored
theorem nP:type_of% @Below.grown:=@Below.grown
theorem qx:type_of% @wpStill_step:=@wpStill_step
theorem qw:type_of% @wpStill_nil:=@wpStill_nil
theorem Dq:type_of% @wp_region_still_tail:=@wp_region_still_tail
theorem Dp:type_of% @Region.noSelect_spec:=@Region.noSelect_spec
theorem Dn:type_of% @World.ownsRow.alloc:=@World.ownsRow.alloc
theorem Et:type_of% @Region.free_spec:=@Region.free_spec
end Go.Proofs.YtmljjfhgciaceaaGreatDoor
