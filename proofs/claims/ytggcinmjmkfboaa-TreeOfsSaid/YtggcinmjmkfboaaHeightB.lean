/- The walk of the document's height of a node that is a leaf. -/
import Derived.Test.YtggcinmjmkfboaaHeight
namespace Go.Proofs.Ytggcinmjmkfboaa
open Go.RowKit

set_option maxRecDepth 100000 in
set_option maxHeartbeats 2000000 in
theorem height_leaf {t : Tr} {nv : Value} {w0 : World} (h0 : NodesAt w0 nv t.nodes) {f : Nat} {n lo hi d : Int} {S : List Int} {w : World} {sb cap : Nat} {x : Nd} (hb0 : Below w0.heap.size w0 w) (hsb : w0.heap.size ≤ sb) (hs : SeenAt w sb t.nodes.length S) (hd0 : d = 12 - f) (hd1 : 1 ≤ d) (hd : d ≤ 12) (hhi : hi ≤ 9223372036854775807) (hlo : 0 ≤ lo) (hx : t.at? n = some x) (hnS : n ∉ S) (hlt : lo < hi) (hleaf : x.leaf = true) :
    Calls Try.prog 43 #[.agg #[nv, .int .i64 t.root], .int .i64 n, .int .i64 lo, .int .i64 hi, .int .i64 d, .slice (some ⟨sb, 0, none⟩) t.nodes.length cap] w (HeightPost w0 sb t.nodes.length (heightR t (f + 1) n lo hi S) w) := by
  have hyes : LeafOk t n x lo hi → heightR t (f + 1) n lo hi S = some (d, n :: S) := fun h => by rw [heightR_leaf hx hnS hlt hleaf h, hd0]
  have hno : ¬ LeafOk t n x lo hi → heightR t (f + 1) n lo hi S = none := fun h => heightR_noleaf hx hleaf h
  obtain ⟨hn0, hn1, hn2⟩ := at?_get hx
  obtain ⟨j, hj⟩ : ∃ j : Nat, n = j := ⟨n.toNat, by omega⟩
  subst hj
  rw [Int.toNat_natCast] at hn1 hn2
  obtain ⟨nb, noff, c, ev, kv, dv, bv, rfl, hnb, hE, hK, hD, hB, c0, c1, c2, c3, c4⟩ := node_later h0 hb0 hn2
  have hlen := h0.len.2
  obtain ⟨ae, ne, rfl⟩ := hE.isSlice
  obtain ⟨ak, nk, rfl⟩ := hK.isSlice
  obtain ⟨ad, ndd, rfl⟩ := hD.isSlice
  obtain ⟨ab, nbb, rfl⟩ := hB.isSlice
  obtain ⟨s0, s1⟩ := hs.2 j hn1
  have hsl := hs.1
  have hbz := hb0.size
  have hsnb : sb ≠ nb := by omega
  have hnbw : nb < w.heap.size := by omega
  have d1 : inR (j : Int) 0 ((t.nodes.length : Int) - 1) = true := inR_true.2 (by omega)
  have l1 := hE.len (by decide)
  have l2 := hK.len (by decide)
  have l3 := hD.len (by decide)
  have l4 := hB.len (by decide)
  rw [if_neg hnS] at s0
  rw [hleaf] at c0
  have SN : SeenAt (w.setCell ⟨sb, j, none⟩ (.int .i64 1)) sb t.nodes.length ((j : Int) :: S) := hs.set rfl hn1
  have HE := Lib.hid fun w' (hb : Below w0.heap.size w0 w') => may_any (lo := lo) (hi := hi) (hE.below hb (Nat.le_refl _)) (by omega) hhi
  have HIFF := Lib.hid (leafOk_iff (t := t) (n := (j : Int)) (x := x) (lo := lo) (hi := hi))
  have HNIL := Lib.hid fun (h : x.ents.length = 0) => (show entsB x.ents lo hi = true by rw [List.eq_nil_of_length_eq_zero h]; exact entsB_true.2 (entsOk_nil lo hi))
  have HYES := Lib.hid hyes
  have HNO := Lib.hid hno
  clear hs h0 hE hK hD hB hx hn0 hnS hyes hno hleaf hd0
  generalize x.ents.length = le at *
  generalize x.keys.length = lk at *
  generalize x.kids.length = ld at *
  generalize x.buf.length = lb at *
  generalize entsB x.ents lo hi = be at *
  have hw1 : IntKind.i64.wrap ((t.nodes.length : Int) - 1) = (t.nodes.length : Int) - 1 := IntWalk.i64_in _ (by omega)
  go_enter Try.func43, Try.ntmps43
  go_upto_region 7 with ((go_at_call 16; refine (in_any _ _ _ _).mono ?_; rintro e w' ⟨rfl, rfl⟩))
  clear hw1
  obtain ⟨W2, hW2⟩ : ∃ W2, W2 = (((w.setCell ⟨sb, j, none⟩ (.int .i64 1)).alloc (.cells #[.slice (some ⟨nb, noff, none⟩) t.nodes.length c, .int .i64 t.root] 25)).alloc (.cells #[.bool true, .slice ae le ne, .slice ak lk nk, .slice ad ld ndd, .slice ab lb nbb] 59)) := ⟨_, rfl⟩
  have ht2 : Turn (· = sb) w W2 := by rw [hW2]; exact (by repeat (first | exact Turn.refl _ _ | assumption | refine Turn.drewN ?_ _ | refine Turn.drew ?_ | refine Turn.alloc ?_ _ | refine Turn.setCell ?_ (by first | exact .inl rfl | (right; first | omega | (simp; done) | (simp; omega))) _))
  have hb2 : Below w0.heap.size w0 W2 := ht2.below hb0 (by omega) (fun i hi => by omega)
  have sn2 : SeenAt W2 sb t.nodes.length ((j : Int) :: S) := by rw [hW2]; exact SN.turn (X := fun _ => False) (((Turn.refl _ _).alloc _).alloc _) (fun h => h)
  have k0 : W2.heap[w.heap.size]? = some (.cells #[.slice (some ⟨nb, noff, none⟩) t.nodes.length c, .int .i64 t.root] 25) := by
    rw [hW2, Below.heap_alloc _ _ _ (by simp [heap_setCell_size])]; exact heap_new _ _ (by rw [heap_setCell_size])
  have k1 : W2.heap[w.heap.size + 1]? = some (.cells #[.bool true, .slice ae le ne, .slice ak lk nk, .slice ad ld ndd, .slice ab lb nbb] 59) := by
    rw [hW2]; exact heap_new _ _ (by simp [heap_setCell_size])
  have q0 : W2.cell? ⟨w.heap.size, 1, none⟩ = some (.int .i64 t.root) := by simp [World.cell?, k0]
  obtain ⟨x0, x1, x2, x3, x4⟩ : W2.cell? ⟨w.heap.size + 1, 0, none⟩ = some (.bool true) ∧ W2.cell? ⟨w.heap.size + 1, 1, none⟩ = some (.slice ae le ne) ∧ W2.cell? ⟨w.heap.size + 1, 2, none⟩ = some (.slice ak lk nk) ∧ W2.cell? ⟨w.heap.size + 1, 3, none⟩ = some (.slice ad ld ndd) ∧ W2.cell? ⟨w.heap.size + 1, 4, none⟩ = some (.slice ab lb nbb) := by
    simp [World.cell?, k1]
  rw [← hW2]
  have HEW := Lib.hid (HE.out W2 hb2)
  clear hW2 k0 k1 SN s0 s1 c0 c1 c2 c3 c4 hb0 hb2 HE
  by_cases g1 : lk + ld + lb = 0
  · obtain ⟨rfl, rfl, rfl⟩ : lk = 0 ∧ ld = 0 ∧ lb = 0 := by omega
    by_cases g2 : le ≤ 6
    · by_cases g3 : le = 0
      · subst g3
        have hbe : be = true := HNIL.out rfl
        subst hbe
        by_cases g4 : (j : Int) = t.root
        · have HR := Lib.hid (HYES.out (HIFF.out.2 ⟨by omega, by omega, fun _ => g4, rfl⟩))
          have dr : ((j : Int) != t.root) = false := by simp [g4]
          clear g1 g2 g4
          go_wp2_with ((go_at_call 51; (with_reducible refine HEW.out.mono ?_); rintro e' w1 ⟨rfl, BE⟩))
          go_ret
          rw [HR.out]
          exact post_some (ht2.trans (Turn.of BE (Nat.le_refl _))) rfl (sn2.turn (X := fun _ => False) (Turn.of BE (Nat.le_refl _)) (fun h => h))
        · have HR := Lib.hid (HNO.out (fun h => g4 ((HIFF.out.1 h).2.2.1 rfl)))
          have dr : ((j : Int) != t.root) = true := by simp [g4]
          clear g1 g2 g4
          go_wp2
          go_ret
          rw [HR.out]
          exact post_none ht2 rfl
      · have g3' : 0 < le := by omega
        have g3'' : decide (le = 0) = false := by simp [g3]
        cases be with
        | true =>
          have HR := Lib.hid (HYES.out (HIFF.out.2 ⟨by omega, by omega, fun h => absurd h g3, rfl⟩))
          clear g1
          go_wp2_with ((go_at_call 51; (with_reducible refine HEW.out.mono ?_); rintro e' w1 ⟨rfl, BE⟩))
          go_ret
          rw [HR.out]
          exact post_some (ht2.trans (Turn.of BE (Nat.le_refl _))) rfl (sn2.turn (X := fun _ => False) (Turn.of BE (Nat.le_refl _)) (fun h => h))
        | false =>
          have HR := Lib.hid (HNO.out (fun h => by have := (HIFF.out.1 h).2.2.2; cases this))
          clear g1
          go_wp2_with ((go_at_call 51; (with_reducible refine HEW.out.mono ?_); rintro e' w1 ⟨rfl, BE⟩))
          go_ret
          rw [HR.out]
          exact post_none (ht2.trans (Turn.of BE (Nat.le_refl _))) rfl
    · have HR := Lib.hid (HNO.out (fun h => g2 (HIFF.out.1 h).2.1))
      have g2' : 6 < le := by omega
      clear g1 g2
      go_wp2
      go_ret
      rw [HR.out]
      exact post_none ht2 rfl
  · have HR := Lib.hid (HNO.out (fun h => g1 (HIFF.out.1 h).1))
    have g1' : 0 < lk + ld + lb := by omega
    have g1'' : (0 : Int) < (lk : Int) + ld + lb := by omega
    clear g1
    go_wp2
    go_ret
    rw [HR.out]
    exact post_none ht2 rfl
end Go.Proofs.Ytggcinmjmkfboaa
