/- Bases in memory; slices.Clone of strings. -/
import Derived.Test.YtijcaejdgicbmaaDoorCopy
import Derived.Test.YtijcaejdgicbmaaDoorSN
import Derived.Test.YtijcaejdgicbmaaDoorPA
import Derived.Lib.LazyBuf
namespace Go.Proofs.YtijcaejdgicbmaaDoor
open Go.RowKit

def enStr (s : ByteArray) : List Value := [.string s]
theorem enStr_length (s : ByteArray) : (enStr s).length = 1 := rfl
theorem enStr_one (xs : List ByteArray) : ∀ u ∈ xs.flatMap enStr, u.oneCell' = true := by
  intro u hu
  obtain ⟨x, _, hx⟩ := List.mem_flatMap.1 hu
  simp [enStr] at hx
  subst hx; rfl
theorem Tryd.iStr : (Tryd.prog.info? 9).map (fun i => (i.zero.map (fun z => z.cells.size), i.size, i.bytes)) = some (some 1, 1, 16) := by kernel_rfl
abbrev StrsAt (w : World) (v : Value) (xs : List ByteArray) : Prop := SlAt 1 16 enStr w v xs
/-- A base in memory: names, three trees, the floor. -/
def BaseAt (w : World) (v : Value) (b : Ba) : Prop := ∃ nv a0 a1 a2, v = .agg #[nv, a0, .int .i64 b.t0.root, a1, .int .i64 b.t1.root, a2, .int .i64 b.t2.root, .int .i64 b.floor] ∧ StrsAt w nv b.names ∧ NodesAt w a0 b.t0.nodes ∧ NodesAt w a1 b.t1.nodes ∧ NodesAt w a2 b.t2.nodes

set_option maxRecDepth 100000 in
set_option maxHeartbeats 1000000 in
theorem cloneStr_any {v : Value} {xs : List ByteArray} {w : World} (h : SlAt 1 16 enStr w v xs) :
    Calls Tryd.prog 63 #[v] w fun e w' => ∃ v', e = .returned v' ∧ w'.ownsRow w.heap.size 9 1 v' xs.length (xs.flatMap enStr) ∧ Below w.heap.size w w' := by
  obtain ⟨ao, cap, rfl, h1, h2, h3, h4, h5⟩ := id h
  have hnil : ∀ w, (binOp .eql 22 (.slice ao xs.length cap) (.slice none 0 0)).run Tryd.prog w = .ok (.bool ao.isNone) w := fun w => Lib.run_eql_slice_nil w _ _ _ _ _ _ _ Tryd.underlying22
  cases ao with
  | none =>
    have h0 : xs.length = 0 := by have := h4 rfl; omega
    obtain rfl := List.eq_nil_of_length_eq_zero h0
    obtain rfl : cap = 0 := h4 rfl
    clear h4 h5
    simp only [Option.isNone_none, List.length_nil] at hnil
    go_enter Tryd.func63, Tryd.ntmps63
    go_wp2_with fail
    go_ret
    exact ⟨_, rfl, World.ownsRow_nil _ _ _ _, Below.refl _ _⟩
  | some ad =>
    obtain ⟨_, g1, g2⟩ := h.news (enStr_length)
    obtain ⟨i0, z, hi, hz, hz1, hz2, hz3⟩ := info_some Tryd.iStr
    simp only [Option.isNone_some] at hnil
    have hown0 : (w.alloc (.cells #[] 9)).ownsRow w.heap.size 9 1 (.slice (some ⟨w.heap.size, 0, none⟩) 0 0) 0 [] := World.ownsRow_made w #[] 0 (Nat.le_refl _) (by simp [maxLen]) (by simp)
    clear h4 h5
    go_enter Tryd.func63, Tryd.ntmps63
    go_wp2_with (at_builtin; refine wpList_append_own _ rfl _ _ 22 rfl w.heap.size 9 i0 z 1 16 Tryd.underlying22 hi hz hz1 hz2 hz3 (by decide) _ _ _ rfl hown0 ad xs.length cap (xs.flatMap enStr) rfl g1 (fun j u hj => cell_alloc (g2 j u hj)) (enStr_one xs) (by unfold maxLen; omega) (by omega) (by simp) ?_; intro v' w3 hown' hgrow hv)
    go_ret
    exact ⟨v', rfl, by simpa using hown', Below.grown ((Below.refl _ _).alloc (Nat.le_refl _) _) hgrow (by simp) (fun j hj => (hown0.lt j hj).1)⟩

end Go.Proofs.YtijcaejdgicbmaaDoor
