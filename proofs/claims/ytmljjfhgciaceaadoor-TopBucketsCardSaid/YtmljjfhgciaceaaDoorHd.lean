import Derived.Lib.Hide
import Derived.KernelRfl
namespace Go.Proofs.YtmljjfhgciaceaaDoor
open Go.RowKit
variable {p:Prop}
theorem hdd (h:p):RowKit.Hid p:=h
theorem af (h:p:=by omega):p:=h
theorem aW (h:p:=by decide):p:=h
theorem bq (h:p:=by simp):p:=h
theorem cy (h:p:=by kernel_rfl):p:=h
theorem aI {n:Nat}:n<=n:=Nat.le_refl n
theorem bQ.{u} {α:Sort u} (a:α):∃x,x=a:=⟨a,rfl⟩
theorem bw.{u} {α:Sort u} (a:α):∃x,a=x:=⟨a,rfl⟩
abbrev ah (w v:World):Prop:=Below w.heap.size w v
theorem kK:type_of% @Nat.le_refl:=@Nat.le_refl
theorem eW:type_of% @Array.getElem?_eq_some_iff:=@Array.getElem?_eq_some_iff
theorem ai:type_of% @if_neg:=@if_neg
theorem ar:type_of% @if_pos:=@if_pos
theorem aM:type_of% @And.intro:=@And.intro
theorem aJ:type_of% @Below.refl:=@Below.refl
theorem iX:type_of% @of_decide_eq_true:=@of_decide_eq_true
theorem dw:type_of% @Option.some.inj:=@Option.some.inj
theorem eP:type_of% @List.length_append:=@List.length_append
theorem mn:type_of% @List.take_succ_eq_append_getElem:=@List.take_succ_eq_append_getElem
theorem dt:type_of% @Bool.and_eq_true_iff:=@Bool.and_eq_true_iff
theorem kJ:type_of% @List.take_of_length_le:=@List.take_of_length_le
theorem gH:type_of% @List.getElem?_eq_some_iff:=@List.getElem?_eq_some_iff
theorem fO:type_of% @List.getElem_mem:=@List.getElem_mem
theorem fw:type_of% @List.length_take:=@List.length_take
theorem fR:type_of% @List.length_cons:=@List.length_cons
theorem jn:type_of% @List.append_assoc:=@List.append_assoc
theorem iN:type_of% @Nat.zero_le:=@Nat.zero_le
theorem fc:type_of% @List.mem_cons:=@List.mem_cons
theorem lJ:type_of% @Below.heap_alloc:=@Below.heap_alloc
theorem gG:type_of% @List.flatMap_cons:=@List.flatMap_cons
theorem xO:type_of% @Int.tmod_eq_emod_of_nonneg:=@Int.tmod_eq_emod_of_nonneg
theorem js:type_of% @List.mem_filter:=@List.mem_filter
theorem XS:type_of% @of_decide_eq_false:=@of_decide_eq_false
theorem oL:type_of% @List.getElem?_eq_getElem:=@List.getElem?_eq_getElem
theorem pA:type_of% @List.all_eq_true:=@List.all_eq_true
theorem gT:type_of% @Nat.le_trans:=@Nat.le_trans
theorem tO:type_of% @List.length_filter_le:=@List.length_filter_le
theorem nB:type_of% @List.mem_singleton:=@List.mem_singleton
theorem pz:type_of% @List.pairwise_iff_getElem:=@List.pairwise_iff_getElem
theorem kW:type_of% @List.getElem_of_mem:=@List.getElem_of_mem
theorem xN:type_of% @List.eq_nil_of_length_eq_zero:=@List.eq_nil_of_length_eq_zero
theorem vg:type_of% @List.drop_eq_getElem_cons:=@List.drop_eq_getElem_cons
theorem nM:type_of% @List.append_nil:=@List.append_nil
theorem mE:type_of% @Nat.lt_of_lt_of_le:=@Nat.lt_of_lt_of_le
theorem nA:type_of% @List.length_map:=@List.length_map
theorem tN:type_of% @List.filter_cons_of_pos:=@List.filter_cons_of_pos
theorem sx:type_of% @List.filter_cons_of_neg:=@List.filter_cons_of_neg
theorem kI:type_of% @List.mem_append:=@List.mem_append
theorem iM:type_of% @Nat.zero_add:=@Nat.zero_add
theorem lI:type_of% @List.mem_map:=@List.mem_map
theorem sw:type_of% @List.filter_append:=@List.filter_append
theorem wH:type_of% @List.mem_of_mem_take:=@List.mem_of_mem_take
theorem iF:type_of% @not_not_intro:=@not_not_intro
theorem AB:type_of% @Int.tdiv_eq_ediv_of_nonneg:=@Int.tdiv_eq_ediv_of_nonneg
theorem ac5:type_of% @Array.mem_of_getElem?:=@Array.mem_of_getElem?
theorem oJ:type_of% @List.length_drop:=@List.length_drop
theorem Kv:type_of% @Int.mul_le_mul_of_nonneg_left:=@Int.mul_le_mul_of_nonneg_left
theorem wG:type_of% @List.take_append_drop:=@List.take_append_drop
theorem rz:type_of% @List.pairwise_cons:=@List.pairwise_cons
theorem qd:type_of% @List.getElem?_take:=@List.getElem?_take
theorem wF:type_of% @decide_eq_false:=@decide_eq_false
theorem qc:type_of% @Below.heap_setCell:=@Below.heap_setCell
theorem ve:type_of% @List.mem_of_mem_drop:=@List.mem_of_mem_drop
theorem AA:type_of% @List.drop_eq_nil_of_le:=@List.drop_eq_nil_of_le
theorem zR:type_of% @List.take_append_of_le_length:=@List.take_append_of_le_length
theorem tM:type_of% @List.flatMap_append:=@List.flatMap_append
theorem zQ:type_of% @List.length_set:=@List.length_set
theorem tL:type_of% @List.map_append:=@List.map_append
theorem lH:type_of% @Nat.lt_or_ge:=@Nat.lt_or_ge
theorem zP:type_of% @List.getElem?_append_left:=@List.getElem?_append_left
theorem sk:type_of% @decide_eq_true_eq:=@decide_eq_true_eq
theorem iE:type_of% @Option.some.injEq:=@Option.some.injEq
theorem jK:type_of% @Prod.mk.injEq:=@Prod.mk.injEq
theorem wC:type_of% @List.getElem_take:=@List.getElem_take
theorem Az:type_of% @List.getElem?_set_ne:=@List.getElem?_set_ne
theorem zO:type_of% @List.perm_iff_count:=@List.perm_iff_count
end Go.Proofs.YtmljjfhgciaceaaDoor
