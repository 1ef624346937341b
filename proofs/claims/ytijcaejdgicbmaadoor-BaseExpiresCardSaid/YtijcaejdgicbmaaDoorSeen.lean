/- The walker's map of the nodes that were seen. -/
import Derived.Test.YtijcaejdgicbmaaDoorSN
import Derived.Maps.OwnSet
import Derived.Maps.OwnOps
namespace Go.Proofs.YtijcaejdgicbmaaDoor
open Go.RowKit Go.Maps

/-- The map in which the numbers S stand, each with true. -/
def setB : List Int → DataW Unit
  | [] => .map []
  | n :: S => (setB S).put (.int .i64 n) (.lit (.bool true))
theorem isKey_int (n : Int) : WideAt.IsKeyLit (.int .i64 n) := by first | trivial | simp [WideAt.IsKeyLit] | decide
theorem setB_isMap : ∀ S, IsMap (setB S)
  | [] => isMap_empty
  | _ :: S => (setB_isMap S).put _ _
theorem setB_tidy : ∀ S, Tidy (setB S)
  | [] => tidy_empty
  | _ :: S => (setB_tidy S).put (isKey_int _) _
theorem setB_at (n : Int) : ∀ S, (setB S).atKey (.int .i64 n) (.lit (.bool false)) = .lit (.bool (decide (n ∈ S)))
  | [] => by rw [setB, atKey_of_not_has (by rfl)]; rfl
  | m :: S => by
    rw [setB]
    by_cases h : n = m
    · subst h; rw [atKey_put_same (setB_isMap S) (isKey_int n)]; simp
    · rw [atKey_put_other (by simp [h]), setB_at n S]; simp [h]
theorem setB_has (n : Int) : ∀ S, has (setB S) (.int .i64 n) = decide (n ∈ S)
  | [] => by rfl
  | m :: S => by
    rw [setB]
    by_cases h : n = m
    · subst h; rw [has_put_same (setB_isMap S) (isKey_int n)]; simp
    · rw [has_put_other (by simp [h]), setB_has n S]; simp [h]
theorem setB_size : ∀ {S : List Int}, S.Nodup → size (setB S) = S.length
  | [], _ => rfl
  | n :: S, h => by
    have hn := List.nodup_cons.1 h
    rw [setB, size_put (setB_tidy S), setB_has, if_neg (by simpa using hn.1), setB_size hn.2]; rfl

theorem plainElem_bool_inv {P : Program} {e : TypeId} (he : P.underlying e = some .bool) {v : Value} {z : DataW Unit × List MemPlace} (h : plainElem P e v = some z) : ∃ b, v = .bool b ∧ z = (.lit (.bool b), []) := by
  unfold plainElem at h
  rw [he] at h
  cases v <;> simp at h
  exact ⟨_, rfl, h.symm⟩
theorem Tryd.zeroBool (w : World) : (zeroValue 4).run Tryd.prog w = .ok (.bool false) w := by kernel_rfl
theorem Tryd.keyedInt : Keyed Tryd.prog 3 := int_keyed Tryd.underlying3
/-- The block mb is the map of the numbers S. -/
def SetAt (w : World) (mb : Nat) (S : List Int) : Prop := w.ownsMap (H := Unit) Tryd.prog 3 (plainElem Tryd.prog 4) mb S.length (setB S)
theorem wf_i64 {n : Int} (h : i64 n) : (Lit.int .i64 n).wf = true := by
  unfold i64 at h; simp [Lit.wf, IntKind.min, IntKind.max, IntKind.signed, IntKind.bits]; exact h
theorem SetAt.look {w : World} {mb : Nat} {S : List Int} (h : SetAt w mb S) {n : Int} (hn : i64 n) : (Instr.lookup 120 (.map (some mb)) (.int .i64 n) false).run Tryd.prog w = .ok (.bool (decide (n ∈ S))) w := by
  obtain ⟨v, ps, hrun, hv⟩ := World.ownsMap.lookup h Tryd.keyedInt Tryd.underlying120 (Tryd.zeroBool w) (plainElem_bool Tryd.underlying4 false) (keyOf_int_mk Tryd.underlying3 (wf_i64 hn))
  rw [setB_at] at hv
  obtain ⟨b, rfl, e⟩ := plainElem_bool_inv Tryd.underlying4 hv
  simp only [Prod.mk.injEq, DataW.lit.injEq, Lit.bool.injEq] at e
  rw [hrun, e.1]
theorem SetAt.len {w : World} {mb : Nat} {S : List Int} (h : SetAt w mb S) (hs : S.Nodup) (ty : TypeId) : (Builtin.len_ #[120] ty #[.map (some mb)]).run Tryd.prog w = .ok (.int .i64 S.length) w := by
  rw [World.ownsMap.len h Tryd.underlying120 ty, setB_size hs]
theorem SetAt.lt {w : World} {mb : Nat} {S : List Int} (h : SetAt w mb S) : mb < w.heap.size := World.ownsMap.lt h
theorem SetAt.block {w w' : World} {mb : Nat} {S : List Int} (h : SetAt w mb S) (hb : w'.heap[mb]? = w.heap[mb]?) : SetAt w' mb S := by
  obtain ⟨es, clock, h1, F, hs, hD⟩ := h
  exact ⟨es, clock, hb.trans h1, F, hs, hD⟩
theorem SetAt.turn {w w' : World} {mb : Nat} {S : List Int} (h : SetAt w mb S) {X : Nat → Prop} (ht : Turn X w w') (hx : ¬ X mb) : SetAt w' mb S := h.block (ht.block mb h.lt hx)
theorem Turn.grown {X : Nat → Prop} {a w w' : World} {row : Option Nat} (h : Turn X a w) (hg : w.grownBy w' row) (hr : ∀ k, row = some k → X k ∨ a.heap.size ≤ k) : Turn X a w' :=
  ⟨hg.os.trans h.os, hg.tape.trans h.tape, hg.output.trans h.output, Nat.le_trans h.size hg.size, fun i hi hx => (hg.block i (Nat.lt_of_lt_of_le hi h.size) (fun e => by rcases hr i e.symm with h1 | h1; exact hx h1; omega)).trans (h.block i hi hx)⟩
end Go.Proofs.YtijcaejdgicbmaaDoor
