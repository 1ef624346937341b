/- An entry put in among others: the cells of its row; 'copy' of elements of several cells. -/
import Derived.Test.YtmpknhefkhjfpaaWith
import Derived.Laws.CopyRow
import Derived.Lib.Overlaps
import Derived.Lib.AppendZerosOnto
import Derived.Laws.Externs
namespace Go.Proofs.Ytmpknhefkhjfpaa
open Go.RowKit

theorem shift_row {cur C X : List Value} {a : Nat} (hC : cur.take C.length = C) (ha : a ≤ C.length) (hX : X.length = 7) (hfit : C.length + 7 ≤ cur.length) {cur1 cur2 : List Value}
    (h1 : cur1 = cur.take (a + 7) ++ C.drop a ++ cur.drop (a + 7 + (C.drop a).length)) (h2 : cur2 = cur1.take a ++ X ++ cur1.drop (a + X.length)) :
    cur1.length = cur.length ∧ cur2.length = cur.length ∧ cur2.take (C.length + 7) = C.take a ++ X ++ C.drop a := by
  have l1 : cur1.length = cur.length := by rw [h1]; simp; omega
  have e1 : cur1.take a = C.take a := by
    rw [h1, List.append_assoc, List.take_append_of_le_length (by simp; omega), List.take_take, ← hC, List.take_take]
    congr 1; omega
  have e2 : cur1.drop (a + X.length) = C.drop a ++ cur.drop (a + 7 + (C.drop a).length) := by
    rw [h1, hX, List.append_assoc, List.drop_append_of_le_length (by simp; omega), List.drop_eq_nil_of_le (by simp; omega), List.nil_append]
  refine ⟨l1, by rw [h2]; simp; omega, ?_⟩
  rw [h2, e1, e2, ← List.append_assoc, List.take_append_of_le_length (by simp; omega), List.take_of_length_le (by simp; omega)]
theorem grow_row {row C X Z : List Value} {a : Nat} (hr : row = C.take a ++ Z) (ha : a ≤ C.length) (hX : X.length = 7) (hfit : C.length + 7 ≤ row.length) {cur1 cur2 : List Value}
    (h1 : cur1 = row.take a ++ X ++ row.drop (a + X.length)) (h2 : cur2 = cur1.take (a + 7) ++ C.drop a ++ cur1.drop (a + 7 + (C.drop a).length)) :
    cur1.length = row.length ∧ cur2.length = row.length ∧ cur2.take (C.length + 7) = C.take a ++ X ++ C.drop a := by
  have l1 : cur1.length = row.length := by rw [h1]; simp; omega
  have e0 : row.take a = C.take a := by rw [hr, List.take_append_of_le_length (by simp; omega), List.take_of_length_le (by simp; omega)]
  have e1 : cur1.take (a + 7) = C.take a ++ X := by
    rw [h1, e0, List.take_append_of_le_length (by simp; omega), List.take_of_length_le (by simp; omega)]
  refine ⟨l1, by rw [h2]; simp; omega, ?_⟩
  rw [h2, e1, List.take_append_of_le_length (by simp; omega), List.take_of_length_le (by simp; omega)]

/-- 'copy' into a row of one's own: elements of k cells. -/
theorem run_copy_rowk {P : Program} (w : World) (dT sT ty elem : TypeId) (k g o dLen dCap : Nat) (a : Addr) (sLen sCap m : Nat) (cur : Array Value) (t : TypeId) (cs : List Value)
    (hu : P.underlying dT = some (.slice elem)) (hs : (P.info? elem).map (·.size) = some k) (hg : w.heap[g]? = some (.cells cur t (0, 0))) (hm : Nat.min sLen dLen = m) (hn : cs.length = m * k)
    (hsrc : ∀ j v, cs[j]? = some v → w.cell? (a.add j) = some v) (hfit : o + cs.length ≤ cur.size) (h1 : ∀ v ∈ cs, v.oneCell' = true) :
    (Builtin.copy_ #[dT, sT] ty #[.slice (some ⟨g, o, none⟩) dLen dCap, .slice (some a) sLen sCap]).run P w =
      .ok (goInt m) (w.setRow g (cur.toList.take o ++ cs ++ cur.toList.drop (o + cs.length)).toArray) := by
  have hl := run_loadCells_list (P := P) w a cs hsrc
  have hst := run_storeCells_at P g o t cs 0 cur w hg (by simpa using hfit) h1
  cases hq : P.info? elem with
  | none => simp [hq] at hs
  | some i =>
    have hi : i.size = k := by simpa [hq] using hs
    rw [hn] at hl
    simp [Builtin.copy_, run_underlying hu, Builtin.lenOf, Builtin.firstCells, sizeOf, typeInfo, hq, hi, hm, hl, hst]
/-- .. as an operation of the walk. -/
theorem wpList_copy_run {P : Program} (w : World) {ops : Array Oper} {rest : List Oper} {o : Oper} {a : Act} {Q : Exit → Act → World → Prop} (hgd : o.guard = none) (d s : Operand) (t t' : TypeId)
    (ho : o.op = .call { callee := .builtin .copy, args := #[d, s], argTypes := #[t, t'] }) (v u : Value) (hd : a.eval d = v) (hs : a.eval s = u) {v' : Value} {w' : World}
    (hr : (Builtin.copy_ #[t, t'] o.type #[v, u]).run P w = .ok v' w') (h : wpList P ops Q rest (a.put o.dst v') w') : wpList P ops Q (o :: rest) a w :=
  wpList_plain hgd fun K hK => by
    unfold Oper.wp execOp
    simp only [ho, resolve, invoke, builtin, Sem.run_bind, Sem.run_pure, Result.andThen_ok, List.map_toArray, List.map_cons, List.map_nil, hd, hs, hr]
    exact hK _ _ h
theorem wpList_append_ran {P : Program} (w : World) {ops : Array Oper} {rest : List Oper} {o : Oper} {a : Act} {Q : Exit → Act → World → Prop} (hgd : o.guard = none) (d s : Operand) (t t' : TypeId)
    (ho : o.op = .call { callee := .builtin .append, args := #[d, s], argTypes := #[t, t'] }) (v u : Value) (hd : a.eval d = v) (hs : a.eval s = u) {v' : Value} {w' : World}
    (hr : (Builtin.append_ #[t, t'] o.type #[v, u]).run P w = .ok v' w') (h : wpList P ops Q rest (a.put o.dst v') w') : wpList P ops Q (o :: rest) a w :=
  wpList_plain hgd fun K hK => by
    unfold Oper.wp execOp
    simp only [ho, resolve, invoke, builtin, Sem.run_bind, Sem.run_pure, Result.andThen_ok, List.map_toArray, List.map_cons, List.map_nil, hd, hs, hr]
    exact hK _ _ h
theorem flat_take {es : List Ent} (i : Nat) : (es.take i).flatMap enEnt = (es.flatMap enEnt).take (i * 7) := by
  induction es generalizing i with
  | nil => simp
  | cons e es ih =>
    cases i with
    | zero => simp
    | succ i =>
      rw [List.take_succ_cons, List.flatMap_cons, List.flatMap_cons, ih, Nat.add_mul, Nat.one_mul, List.take_append, enEnt_length, List.take_of_length_le (l := enEnt e) (by rw [enEnt_length]; omega), Nat.add_sub_cancel]
theorem flat_drop {es : List Ent} (i : Nat) : (es.drop i).flatMap enEnt = (es.flatMap enEnt).drop (i * 7) := by
  induction es generalizing i with
  | nil => simp
  | cons e es ih =>
    cases i with
    | zero => simp
    | succ i =>
      rw [List.drop_succ_cons, List.flatMap_cons, ih, Nat.add_mul, Nat.one_mul, List.drop_append, enEnt_length, (show (enEnt e).drop (i * 7 + 7) = [] from List.drop_eq_nil_of_le (by rw [enEnt_length]; omega)), Nat.add_sub_cancel, List.nil_append]
end Go.Proofs.Ytmpknhefkhjfpaa
