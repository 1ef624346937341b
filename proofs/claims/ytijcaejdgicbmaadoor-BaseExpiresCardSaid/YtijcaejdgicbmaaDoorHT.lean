/- Texts of mine that come as one: Height HeightB HeightC Fault. -/
import Derived.Test.YtijcaejdgicbmaaDoorPA
import Derived.Test.YtijcaejdgicbmaaDoorSN
import Derived.Test.YtijcaejdgicbmaaDoorMay
import Derived.StillTailTactics
import Derived.Deep.CutBlock
import Derived.Laws.OwnMore
import Derived.OwnWalk
/- The walk of the document's height of a node. -/
namespace Go.Proofs.YtijcaejdgicbmaaDoor
open Go.RowKit

/-- How often each node was seen: the block sb. -/
def SeenAt (w : World) (sb N : Nat) (S : List Int) : Prop := sb < w.heap.size ∧ ∀ i : Nat, i < N → w.cell? ⟨sb, i, none⟩ = some (.int .i64 (if (i : Int) ∈ S then 1 else 0)) ∧ w.frozen? ⟨sb, i, none⟩ = false
theorem SeenAt.turn {w w' : World} {sb N : Nat} {S : List Int} (h : SeenAt w sb N S) {X : Nat → Prop} (ht : Turn X w w') (hx : ¬ X sb) : SeenAt w' sb N S :=
  ⟨Nat.lt_of_lt_of_le h.1 ht.size, fun i hi => ⟨(ht.cell h.1 hx i).trans (h.2 i hi).1, (ht.frozen h.1 hx i).trans (h.2 i hi).2⟩⟩
theorem SeenAt.set {w : World} {sb N : Nat} {S : List Int} (h : SeenAt w sb N S) {n : Int} {j : Nat} (hj : n = j) (hn : j < N) : SeenAt (w.setCell ⟨sb, j, none⟩ (.int .i64 1)) sb N (n :: S) := by
  refine ⟨by rw [heap_setCell_size]; exact h.1, fun i hi => ?_⟩
  by_cases hij : i = j
  · subst hij
    refine ⟨?_, ?_⟩
    · rw [World.cell?_setCell_same' _ _ _ (by rw [(h.2 i hi).1]; rfl), if_pos (by simp [hj])]
    · rw [← (h.2 i hi).2]; simp [World.frozen?, World.setCell, Array.getElem?_modify]
      cases w.heap[sb]? with
      | none => rfl
      | some o => cases o <;> rfl
  · refine ⟨?_, ?_⟩
    · rw [World.cell?_setCell_other _ _ _ _ (by simp [Ne.symm hij]), (h.2 i hi).1]
      have : ((i : Int) ∈ n :: S) ↔ (i : Int) ∈ S := by simp [hj]; omega
      simp only [this]
    · rw [← (h.2 i hi).2]; simp [World.frozen?, World.setCell, Array.getElem?_modify]
      cases w.heap[sb]? with
      | none => rfl
      | some o => cases o <;> rfl

/-- What a call of 'height' leaves. -/
def HeightPost (w0 : World) (sb N : Nat) (r : Option (Int × List Int)) (w : World) (e : Ending) (w' : World) : Prop :=
  Turn (· = sb) w w' ∧ (match r with | none => e = .returned (.int .i64 0) | some (h, S') => e = .returned (.int .i64 h) ∧ SeenAt w' sb N S')


theorem post_none {w0 : World} {sb N : Nat} {w w' : World} {e : Ending} (ht : Turn (· = sb) w w') (he : e = .returned (.int .i64 0)) : HeightPost w0 sb N none w e w' := ⟨ht, he⟩
theorem post_some {w0 : World} {sb N : Nat} {w w' : World} {e : Ending} {h : Int} {S : List Int} (ht : Turn (· = sb) w w') (he : e = .returned (.int .i64 h)) (hs : SeenAt w' sb N S) : HeightPost w0 sb N (some (h, S)) w e w' := ⟨ht, he, hs⟩

set_option maxRecDepth 100000 in
set_option maxHeartbeats 1000000 in
theorem height_bad {t : Tr} {nv : Value} {w0 : World} (h0 : NodesAt w0 nv t.nodes) {f : Nat} {n lo hi d : Int} {S : List Int} {w : World} {sb N cap : Nat} (hd : d = 13 - f) (hf : f ≤ 12) (hbad : f = 0 ∨ t.at? n = none) :
    Calls Tryd.prog 89 #[.agg #[nv, .int .i64 t.root], .int .i64 n, .int .i64 lo, .int .i64 hi, .int .i64 d, .slice (some ⟨sb, 0, none⟩) N cap] w (HeightPost w0 sb N (heightR t f n lo hi S) w) := by
  have hr : heightR t f n lo hi S = none := by
    cases f with
    | zero => rfl
    | succ f => exact heightR_none (by rcases hbad with h | h; cases h; exact h)
  rw [hr]
  obtain ⟨⟨ao, c, rfl⟩, hlen⟩ := h0.len
  have hw1 : IntKind.i64.wrap ((t.nodes.length : Int) - 1) = (t.nodes.length : Int) - 1 := IntWalk.i64_in _ (by omega)
  have fin : ∀ w', HeightPost w0 sb N none w (.returned (.int .i64 0)) (w.alloc w') := fun o => ⟨(Turn.refl _ w).alloc o, rfl⟩
  by_cases hin : t.at? n = none
  · have hn := at?_none hin
    have d1 : inR n 0 ((t.nodes.length : Int) - 1) = false := inR_false.2 (by omega)
    have FIN := Lib.hid fin
    clear hr hbad hd hin hn fin h0
    go_enter Tryd.func89, Tryd.ntmps89
    go_wp2_with (go_at_call 33; refine (in_any _ _ _ _).mono ?_; rintro e w' ⟨rfl, rfl⟩)
    go_ret
    exact FIN.out _
  · obtain rfl : f = 0 := by rcases hbad with h | h; exact h; exact absurd h hin
    obtain ⟨x, hx⟩ := Option.ne_none_iff_exists'.1 hin
    have hn := at?_get hx
    have d1 : inR n 0 ((t.nodes.length : Int) - 1) = true := inR_true.2 (by omega)
    have d2 : (12 : Int) < d := by omega
    have FIN := Lib.hid fin
    clear hr hbad hd hin hn fin h0 hx
    go_enter Tryd.func89, Tryd.ntmps89
    go_wp2_with (go_at_call 33; refine (in_any _ _ _ _).mono ?_; rintro e w' ⟨rfl, rfl⟩)
    go_ret
    exact FIN.out _

/-- Node i, as it lies in a later world. -/
theorem node_later {w0 w : World} {nv : Value} {xs : List Nd} (h : NodesAt w0 nv xs) (hb : Below w0.heap.size w0 w) {i : Nat} {x : Nd} (hi : xs[i]? = some x) :
    ∃ nb noff cap ev kv dv bv, nv = .slice (some ⟨nb, noff, none⟩) xs.length cap ∧ nb < w0.heap.size ∧ EntsAt w0 ev x.ents ∧ IntsAt w0 kv x.keys ∧ IntsAt w0 dv x.kids ∧ EntsAt w0 bv x.buf ∧
      w.cell? ⟨nb, noff + i * 5, none⟩ = some (.bool x.leaf) ∧ w.cell? ⟨nb, noff + i * 5 + 1, none⟩ = some ev ∧ w.cell? ⟨nb, noff + i * 5 + 2, none⟩ = some kv ∧ w.cell? ⟨nb, noff + i * 5 + 3, none⟩ = some dv ∧ w.cell? ⟨nb, noff + i * 5 + 4, none⟩ = some bv := by
  obtain ⟨nb, noff, cap, r, e, hnb, ⟨h1, h2, h3, h4, h5⟩, c0, c1, c2, c3, c4⟩ := h.get hi
  have g : ∀ o, w.cell? ⟨nb, o, none⟩ = w0.cell? ⟨nb, o, none⟩ := fun o => hb.cell (p := ⟨nb, o, none⟩) hnb
  exact ⟨nb, noff, cap, r.ev, r.kv, r.dv, r.bv, e, hnb, h2, h3, h4, h5, by rw [g, c0, h1], by rw [g, c1], by rw [g, c2], by rw [g, c3], by rw [g, c4]⟩

set_option maxRecDepth 100000 in
set_option maxHeartbeats 1000000 in
theorem height_seen {t : Tr} {nv : Value} {w0 : World} (h0 : NodesAt w0 nv t.nodes) {f : Nat} {n lo hi d : Int} {S : List Int} {w : World} {sb cap : Nat} {x : Nd} (hb0 : Below w0.heap.size w0 w) (hsb : w0.heap.size ≤ sb) (hs : SeenAt w sb t.nodes.length S) (hd1 : 1 ≤ d) (hd : d ≤ 12) (hx : t.at? n = some x) (hbad : n ∈ S ∨ ¬ lo < hi) :
    Calls Tryd.prog 89 #[.agg #[nv, .int .i64 t.root], .int .i64 n, .int .i64 lo, .int .i64 hi, .int .i64 d, .slice (some ⟨sb, 0, none⟩) t.nodes.length cap] w (HeightPost w0 sb t.nodes.length (heightR t (f + 1) n lo hi S) w) := by
  rw [heightR_seen hx hbad]
  obtain ⟨hn0, hn1, hn2⟩ := at?_get hx
  obtain ⟨j, hj⟩ : ∃ j : Nat, n = j := ⟨n.toNat, by omega⟩
  subst hj
  rw [Int.toNat_natCast] at hn1 hn2
  obtain ⟨nb, noff, c, ev, kv, dv, bv, rfl, hnb, hE, hK, hD, hB, c0, c1, c2, c3, c4⟩ := node_later h0 hb0 hn2
  have hlen := h0.len.2
  obtain ⟨ae, ne, rfl⟩ := hE.isSlice
  obtain ⟨ak, nk, rfl⟩ := hK.isSlice
  obtain ⟨ad, ndd, rfl⟩ := hD.isSlice
  obtain ⟨ab, nbb, rfl⟩ := hB.isSlice
  obtain ⟨s0, s1⟩ := hs.2 j hn1
  have hsl := hs.1
  have hbz := hb0.size
  have hsnb : sb ≠ nb := by omega
  have hnbw : nb < w.heap.size := by omega
  have d1 : inR (j : Int) 0 ((t.nodes.length : Int) - 1) = true := inR_true.2 (by omega)
  have hw1 : IntKind.i64.wrap ((t.nodes.length : Int) - 1) = (t.nodes.length : Int) - 1 := IntWalk.i64_in _ (by omega)
  clear hs h0 hb0 hE hK hD hB hx hn0
  by_cases hjs : (j : Int) ∈ S
  · rw [if_pos hjs] at s0
    clear hbad hjs
    go_enter Tryd.func89, Tryd.ntmps89
    go_wp2_with (go_at_call 33; refine (in_any _ _ _ _).mono ?_; rintro e w' ⟨rfl, rfl⟩)
    go_ret
    exact post_none (by repeat (first | exact Turn.refl _ _ | assumption | refine Turn.drewN ?_ _ | refine Turn.drew ?_ | refine Turn.alloc ?_ _ | refine Turn.setCell ?_ (by first | exact .inl rfl | (right; first | omega | (simp; done) | (simp; omega))) _)) rfl
  · rw [if_neg hjs] at s0
    have hge : hi ≤ lo := by rcases hbad with h | h; exact absurd h hjs; omega
    clear hbad hjs
    go_enter Tryd.func89, Tryd.ntmps89
    go_wp2_with (go_at_call 33; refine (in_any _ _ _ _).mono ?_; rintro e w' ⟨rfl, rfl⟩)
    go_ret
    exact post_none (by repeat (first | exact Turn.refl _ _ | assumption | refine Turn.drewN ?_ _ | refine Turn.drew ?_ | refine Turn.alloc ?_ _ | refine Turn.setCell ?_ (by first | exact .inl rfl | (right; first | omega | (simp; done) | (simp; omega))) _)) rfl
end Go.Proofs.YtijcaejdgicbmaaDoor

/- The walk of the document's height of a node that is a leaf. -/
namespace Go.Proofs.YtijcaejdgicbmaaDoor
open Go.RowKit

set_option maxRecDepth 100000 in
set_option maxHeartbeats 2000000 in
theorem height_leaf {t : Tr} {nv : Value} {w0 : World} (h0 : NodesAt w0 nv t.nodes) {f : Nat} {n lo hi d : Int} {S : List Int} {w : World} {sb cap : Nat} {x : Nd} (hb0 : Below w0.heap.size w0 w) (hsb : w0.heap.size ≤ sb) (hs : SeenAt w sb t.nodes.length S) (hd0 : d = 12 - f) (hd1 : 1 ≤ d) (hd : d ≤ 12) (hhi : hi ≤ 9223372036854775807) (hlo : 0 ≤ lo) (hx : t.at? n = some x) (hnS : n ∉ S) (hlt : lo < hi) (hleaf : x.leaf = true) :
    Calls Tryd.prog 89 #[.agg #[nv, .int .i64 t.root], .int .i64 n, .int .i64 lo, .int .i64 hi, .int .i64 d, .slice (some ⟨sb, 0, none⟩) t.nodes.length cap] w (HeightPost w0 sb t.nodes.length (heightR t (f + 1) n lo hi S) w) := by
  have hyes : LeafOk t n x lo hi → heightR t (f + 1) n lo hi S = some (d, n :: S) := fun h => by rw [heightR_leaf hx hnS hlt hleaf h, hd0]
  have hno : ¬ LeafOk t n x lo hi → heightR t (f + 1) n lo hi S = none := fun h => heightR_noleaf hx hleaf h
  obtain ⟨hn0, hn1, hn2⟩ := at?_get hx
  obtain ⟨j, hj⟩ : ∃ j : Nat, n = j := ⟨n.toNat, by omega⟩
  subst hj
  rw [Int.toNat_natCast] at hn1 hn2
  obtain ⟨nb, noff, c, ev, kv, dv, bv, rfl, hnb, hE, hK, hD, hB, c0, c1, c2, c3, c4⟩ := node_later h0 hb0 hn2
  have hlen := h0.len.2
  obtain ⟨ae, ne, rfl⟩ := hE.isSlice
  obtain ⟨ak, nk, rfl⟩ := hK.isSlice
  obtain ⟨ad, ndd, rfl⟩ := hD.isSlice
  obtain ⟨ab, nbb, rfl⟩ := hB.isSlice
  obtain ⟨s0, s1⟩ := hs.2 j hn1
  have hsl := hs.1
  have hbz := hb0.size
  have hsnb : sb ≠ nb := by omega
  have hnbw : nb < w.heap.size := by omega
  have d1 : inR (j : Int) 0 ((t.nodes.length : Int) - 1) = true := inR_true.2 (by omega)
  have l1 := hE.len (by decide)
  have l2 := hK.len (by decide)
  have l3 := hD.len (by decide)
  have l4 := hB.len (by decide)
  rw [if_neg hnS] at s0
  rw [hleaf] at c0
  have SN : SeenAt (w.setCell ⟨sb, j, none⟩ (.int .i64 1)) sb t.nodes.length ((j : Int) :: S) := hs.set rfl hn1
  have HE := Lib.hid fun w' (hb : Below w0.heap.size w0 w') => may_any (lo := lo) (hi := hi) (hE.below hb (Nat.le_refl _)) (by omega) hhi
  have HIFF := Lib.hid (leafOk_iff (t := t) (n := (j : Int)) (x := x) (lo := lo) (hi := hi))
  have HNIL := Lib.hid fun (h : x.ents.length = 0) => (show entsB x.ents lo hi = true by rw [List.eq_nil_of_length_eq_zero h]; exact entsB_true.2 (entsOk_nil lo hi))
  have HYES := Lib.hid hyes
  have HNO := Lib.hid hno
  clear hs h0 hE hK hD hB hx hn0 hnS hyes hno hleaf hd0
  generalize x.ents.length = le at *
  generalize x.keys.length = lk at *
  generalize x.kids.length = ld at *
  generalize x.buf.length = lb at *
  generalize entsB x.ents lo hi = be at *
  have hw1 : IntKind.i64.wrap ((t.nodes.length : Int) - 1) = (t.nodes.length : Int) - 1 := IntWalk.i64_in _ (by omega)
  go_enter Tryd.func89, Tryd.ntmps89
  go_upto_region 7 with ((go_at_call 33; refine (in_any _ _ _ _).mono ?_; rintro e w' ⟨rfl, rfl⟩))
  clear hw1
  obtain ⟨W2, hW2⟩ : ∃ W2, W2 = (((w.setCell ⟨sb, j, none⟩ (.int .i64 1)).alloc (.cells #[.slice (some ⟨nb, noff, none⟩) t.nodes.length c, .int .i64 t.root] 25)).alloc (.cells #[.bool true, .slice ae le ne, .slice ak lk nk, .slice ad ld ndd, .slice ab lb nbb] 106)) := ⟨_, rfl⟩
  have ht2 : Turn (· = sb) w W2 := by rw [hW2]; exact (by repeat (first | exact Turn.refl _ _ | assumption | refine Turn.drewN ?_ _ | refine Turn.drew ?_ | refine Turn.alloc ?_ _ | refine Turn.setCell ?_ (by first | exact .inl rfl | (right; first | omega | (simp; done) | (simp; omega))) _))
  have hb2 : Below w0.heap.size w0 W2 := ht2.below hb0 (by omega) (fun i hi => by omega)
  have sn2 : SeenAt W2 sb t.nodes.length ((j : Int) :: S) := by rw [hW2]; exact SN.turn (X := fun _ => False) (((Turn.refl _ _).alloc _).alloc _) (fun h => h)
  have k0 : W2.heap[w.heap.size]? = some (.cells #[.slice (some ⟨nb, noff, none⟩) t.nodes.length c, .int .i64 t.root] 25) := by
    rw [hW2, Below.heap_alloc _ _ _ (by simp [heap_setCell_size])]; exact heap_new _ _ (by rw [heap_setCell_size])
  have k1 : W2.heap[w.heap.size + 1]? = some (.cells #[.bool true, .slice ae le ne, .slice ak lk nk, .slice ad ld ndd, .slice ab lb nbb] 106) := by
    rw [hW2]; exact heap_new _ _ (by simp [heap_setCell_size])
  have q0 : W2.cell? ⟨w.heap.size, 1, none⟩ = some (.int .i64 t.root) := by simp [World.cell?, k0]
  obtain ⟨x0, x1, x2, x3, x4⟩ : W2.cell? ⟨w.heap.size + 1, 0, none⟩ = some (.bool true) ∧ W2.cell? ⟨w.heap.size + 1, 1, none⟩ = some (.slice ae le ne) ∧ W2.cell? ⟨w.heap.size + 1, 2, none⟩ = some (.slice ak lk nk) ∧ W2.cell? ⟨w.heap.size + 1, 3, none⟩ = some (.slice ad ld ndd) ∧ W2.cell? ⟨w.heap.size + 1, 4, none⟩ = some (.slice ab lb nbb) := by
    simp [World.cell?, k1]
  rw [← hW2]
  have HEW := Lib.hid (HE.out W2 hb2)
  clear hW2 k0 k1 SN s0 s1 c0 c1 c2 c3 c4 hb0 hb2 HE
  by_cases g1 : lk + ld + lb = 0
  · obtain ⟨rfl, rfl, rfl⟩ : lk = 0 ∧ ld = 0 ∧ lb = 0 := by omega
    by_cases g2 : le ≤ 6
    · by_cases g3 : le = 0
      · subst g3
        have hbe : be = true := HNIL.out rfl
        subst hbe
        by_cases g4 : (j : Int) = t.root
        · have HR := Lib.hid (HYES.out (HIFF.out.2 ⟨by omega, by omega, fun _ => g4, rfl⟩))
          have dr : ((j : Int) != t.root) = false := by simp [g4]
          clear g1 g2 g4
          go_wp2_with ((go_at_call 100; (with_reducible refine HEW.out.mono ?_); rintro e' w1 ⟨rfl, BE⟩))
          go_ret
          rw [HR.out]
          exact post_some (ht2.trans (Turn.of BE (Nat.le_refl _))) rfl (sn2.turn (X := fun _ => False) (Turn.of BE (Nat.le_refl _)) (fun h => h))
        · have HR := Lib.hid (HNO.out (fun h => g4 ((HIFF.out.1 h).2.2.1 rfl)))
          have dr : ((j : Int) != t.root) = true := by simp [g4]
          clear g1 g2 g4
          go_wp2
          go_ret
          rw [HR.out]
          exact post_none ht2 rfl
      · have g3' : 0 < le := by omega
        have g3'' : decide (le = 0) = false := by simp [g3]
        cases be with
        | true =>
          have HR := Lib.hid (HYES.out (HIFF.out.2 ⟨by omega, by omega, fun h => absurd h g3, rfl⟩))
          clear g1
          go_wp2_with ((go_at_call 100; (with_reducible refine HEW.out.mono ?_); rintro e' w1 ⟨rfl, BE⟩))
          go_ret
          rw [HR.out]
          exact post_some (ht2.trans (Turn.of BE (Nat.le_refl _))) rfl (sn2.turn (X := fun _ => False) (Turn.of BE (Nat.le_refl _)) (fun h => h))
        | false =>
          have HR := Lib.hid (HNO.out (fun h => by have := (HIFF.out.1 h).2.2.2; cases this))
          clear g1
          go_wp2_with ((go_at_call 100; (with_reducible refine HEW.out.mono ?_); rintro e' w1 ⟨rfl, BE⟩))
          go_ret
          rw [HR.out]
          exact post_none (ht2.trans (Turn.of BE (Nat.le_refl _))) rfl
    · have HR := Lib.hid (HNO.out (fun h => g2 (HIFF.out.1 h).2.1))
      have g2' : 6 < le := by omega
      clear g1 g2
      go_wp2
      go_ret
      rw [HR.out]
      exact post_none ht2 rfl
  · have HR := Lib.hid (HNO.out (fun h => g1 (HIFF.out.1 h).1))
    have g1' : 0 < lk + ld + lb := by omega
    have g1'' : (0 : Int) < (lk : Int) + ld + lb := by omega
    clear g1
    go_wp2
    go_ret
    rw [HR.out]
    exact post_none ht2 rfl
end Go.Proofs.YtijcaejdgicbmaaDoor

/- The walk of the document's height of a node that has kids. -/
namespace Go.Proofs.YtijcaejdgicbmaaDoor
open Go.RowKit

set_option maxRecDepth 100000 in
set_option maxHeartbeats 2000000 in
theorem height_inner {t : Tr} {nv : Value} {w0 : World} (h0 : NodesAt w0 nv t.nodes) {f : Nat} {n lo hi d : Int} {S : List Int} {w : World} {sb cap : Nat} {x : Nd} (hb0 : Below w0.heap.size w0 w) (hsb : w0.heap.size ≤ sb) (hs : SeenAt w sb t.nodes.length S) (hd0 : d = 12 - f) (hf : f ≤ 11)
    (IH : ∀ (n lo hi d : Int) (S : List Int) (w : World) (cap : Nat), d = 13 - f → Below w0.heap.size w0 w → SeenAt w sb t.nodes.length S → hi ≤ 9223372036854775807 → 0 ≤ lo →
      Calls Tryd.prog 89 #[.agg #[nv, .int .i64 t.root], .int .i64 n, .int .i64 lo, .int .i64 hi, .int .i64 d, .slice (some ⟨sb, 0, none⟩) t.nodes.length cap] w (HeightPost w0 sb t.nodes.length (heightR t f n lo hi S) w))
    (hhi : hi ≤ 9223372036854775807) (hlo : 0 ≤ lo) (hx : t.at? n = some x) (hnS : n ∉ S) (hlt : lo < hi) (hleaf : x.leaf = false) :
    Calls Tryd.prog 89 #[.agg #[nv, .int .i64 t.root], .int .i64 n, .int .i64 lo, .int .i64 hi, .int .i64 d, .slice (some ⟨sb, 0, none⟩) t.nodes.length cap] w (HeightPost w0 sb t.nodes.length (heightR t (f + 1) n lo hi S) w) := by
  have hyes : InnOk x lo hi → heightR t (f + 1) n lo hi S = kidsR (fun k a b s => heightR t f k a b s) x lo hi x.kids 0 (0, n :: S) := fun h => heightR_inner hx hnS hlt hleaf h
  have hno : ¬ InnOk x lo hi → heightR t (f + 1) n lo hi S = none := fun h => heightR_noinner hx hleaf h
  have hd1 : 1 ≤ d := by omega
  have hd : d ≤ 12 := by omega
  obtain ⟨hn0, hn1, hn2⟩ := at?_get hx
  obtain ⟨j, hj⟩ : ∃ j : Nat, n = j := ⟨n.toNat, by omega⟩
  subst hj
  rw [Int.toNat_natCast] at hn1 hn2
  obtain ⟨nb, noff, c, ev, kv, dv, bv, rfl, hnb, hE, hK, hD, hB, c0, c1, c2, c3, c4⟩ := node_later h0 hb0 hn2
  have hlen := h0.len.2
  obtain ⟨ae, ne, rfl⟩ := hE.isSlice
  obtain ⟨ak, nk, rfl⟩ := hK.isSlice
  obtain ⟨ad, ndd, rfl⟩ := hD.isSlice
  obtain ⟨ab, nbb, rfl⟩ := hB.isSlice
  obtain ⟨s0, s1⟩ := hs.2 j hn1
  have hsl := hs.1
  have hbz := hb0.size
  have hsnb : sb ≠ nb := by omega
  have hnbw : nb < w.heap.size := by omega
  have d1 : inR (j : Int) 0 ((t.nodes.length : Int) - 1) = true := inR_true.2 (by omega)
  have l1 := hE.len (by decide)
  have l2 := hK.len (by decide)
  have l3 := hD.len (by decide)
  have l4 := hB.len (by decide)
  rw [if_neg hnS] at s0
  rw [hleaf] at c0
  have SN : SeenAt (w.setCell ⟨sb, j, none⟩ (.int .i64 1)) sb t.nodes.length ((j : Int) :: S) := hs.set rfl hn1
  have HE := Lib.hid fun w' (hb : Below w0.heap.size w0 w') => may_any (lo := lo) (hi := hi) (hB.below hb (Nat.le_refl _)) (by omega) hhi
  have HIFF := Lib.hid (innOk_iff (x := x) (lo := lo) (hi := hi))
  have HYES := Lib.hid hyes
  have HNO := Lib.hid hno
  have HIH := Lib.hid IH
  have HD0 := Lib.hid hd0
  have HKEY := Lib.hid fun w' (hb : Below w0.heap.size w0 w') (i : Nat) (y : Int) (hy : x.keys[i]? = some y) => IntsAt.get (hK.below hb (Nat.le_refl _)) hy
  have HKID := Lib.hid fun w' (hb : Below w0.heap.size w0 w') (i : Nat) (y : Int) (hy : x.kids[i]? = some y) => IntsAt.get (hD.below hb (Nat.le_refl _)) hy
  clear hs h0 hE hK hD hB hx hn0 hnS hyes hno hleaf hd0 IH
  obtain ⟨lk, hlk⟩ : ∃ lk, x.keys.length = lk := ⟨_, rfl⟩
  obtain ⟨ld, hld⟩ : ∃ ld, x.kids.length = ld := ⟨_, rfl⟩
  have HLK := Lib.hid hlk
  have HLD := Lib.hid hld
  clear hlk hld
  generalize x.ents.length = le at *
  generalize x.buf.length = lb at *
  generalize entsB x.buf lo hi = be at *
  rw [HLK.out] at c2 l2 HIFF
  rw [HLD.out] at c3 l3 HIFF
  have hw1 : IntKind.i64.wrap ((t.nodes.length : Int) - 1) = (t.nodes.length : Int) - 1 := IntWalk.i64_in _ (by omega)
  go_enter Tryd.func89, Tryd.ntmps89
  go_upto_region 7 with ((go_at_call 33; refine (in_any _ _ _ _).mono ?_; rintro e w' ⟨rfl, rfl⟩))
  clear hw1
  obtain ⟨W2, hW2⟩ : ∃ W2, W2 = (((w.setCell ⟨sb, j, none⟩ (.int .i64 1)).alloc (.cells #[.slice (some ⟨nb, noff, none⟩) t.nodes.length c, .int .i64 t.root] 25)).alloc (.cells #[.bool false, .slice ae le ne, .slice ak lk nk, .slice ad ld ndd, .slice ab lb nbb] 106)) := ⟨_, rfl⟩
  have ht2 : Turn (· = sb) w W2 := by rw [hW2]; exact (by repeat (first | exact Turn.refl _ _ | assumption | refine Turn.drewN ?_ _ | refine Turn.drew ?_ | refine Turn.alloc ?_ _ | refine Turn.setCell ?_ (by first | exact .inl rfl | (right; first | omega | (simp; done) | (simp; omega))) _))
  have hb2 : Below w0.heap.size w0 W2 := ht2.below hb0 (by omega) (fun i hi => by omega)
  have sn2 : SeenAt W2 sb t.nodes.length ((j : Int) :: S) := by rw [hW2]; exact SN.turn (X := fun _ => False) (((Turn.refl _ _).alloc _).alloc _) (fun h => h)
  have k0 : W2.heap[w.heap.size]? = some (.cells #[.slice (some ⟨nb, noff, none⟩) t.nodes.length c, .int .i64 t.root] 25) := by
    rw [hW2, Below.heap_alloc _ _ _ (by simp [heap_setCell_size])]; exact heap_new _ _ (by rw [heap_setCell_size])
  have k1 : W2.heap[w.heap.size + 1]? = some (.cells #[.bool false, .slice ae le ne, .slice ak lk nk, .slice ad ld ndd, .slice ab lb nbb] 106) := by
    rw [hW2]; exact heap_new _ _ (by simp [heap_setCell_size])
  have q0 : W2.cell? ⟨w.heap.size, 1, none⟩ = some (.int .i64 t.root) := by simp [World.cell?, k0]
  obtain ⟨x0, x1, x2, x3, x4⟩ : W2.cell? ⟨w.heap.size + 1, 0, none⟩ = some (.bool false) ∧ W2.cell? ⟨w.heap.size + 1, 1, none⟩ = some (.slice ae le ne) ∧ W2.cell? ⟨w.heap.size + 1, 2, none⟩ = some (.slice ak lk nk) ∧ W2.cell? ⟨w.heap.size + 1, 3, none⟩ = some (.slice ad ld ndd) ∧ W2.cell? ⟨w.heap.size + 1, 4, none⟩ = some (.slice ab lb nbb) := by
    simp [World.cell?, k1]
  rw [← hW2]
  have HEW := Lib.hid (HE.out W2 hb2)
  clear hW2 SN s0 s1 c0 c1 c2 c3 c4 hb0 HE
  by_cases hok : InnOk x lo hi
  · have HR := Lib.hid (HYES.out hok)
    obtain ⟨e1, e2, e3, e4, e5, e6⟩ := HIFF.out.1 hok
    subst e1 e6
    have d2 : inR (ld : Int) 2 4 = true := inR_true.2 (by omega)
    have d3 : ((lk : Int) + 1 != (ld : Int)) = false := by simp; omega
    have e4a : lk + 1 ≤ ld := by omega
    have e4b : ld ≤ lk + 1 := by omega
    clear hok e4
    go_upto_region 13 with (first
      | (go_at_call 33; (with_reducible refine (in_any _ _ _ _).mono ?_); rintro e w' ⟨rfl, rfl⟩)
      | (go_at_call 100; (with_reducible refine HEW.out.mono ?_); rintro e' w1 ⟨rfl, BE⟩))
    have HC := Lib.hid fun wr (ht : Turn (· = sb) w1 wr) => (by
      have b0 : wr.heap[w.heap.size]? = _ := (ht.block _ (by have := BE.size; have := ht2.size; have := (Array.getElem?_eq_some_iff.1 k0).1; omega) (by omega)).trans ((BE.block _ (Array.getElem?_eq_some_iff.1 k0).1).trans k0)
      have b1 : wr.heap[w.heap.size + 1]? = _ := (ht.block _ (by have := BE.size; have := (Array.getElem?_eq_some_iff.1 k1).1; omega) (by omega)).trans ((BE.block _ (Array.getElem?_eq_some_iff.1 k1).1).trans k1)
      simp [World.cell?, b0, b1] :
      (wr.cell? ⟨w.heap.size, 0, none⟩ = some (.slice (some ⟨nb, noff, none⟩) t.nodes.length c) ∧ wr.cell? ⟨w.heap.size, 1, none⟩ = some (.int .i64 t.root)) ∧ wr.cell? ⟨w.heap.size + 1, 2, none⟩ = some (.slice ak lk nk) ∧ wr.cell? ⟨w.heap.size + 1, 3, none⟩ = some (.slice ad ld ndd))
    have HB := Lib.hid fun wr (ht : Turn (· = sb) w1 wr) => (Turn.below (B := w0.heap.size) ht (hb2.trans (BE.mono (by have := hb2.size; omega))) (by have := hb2.size; have := BE.size; omega) (fun i hi => by omega) : Below w0.heap.size w0 wr)
    have HT := Lib.hid fun wr (ht : Turn (· = sb) w1 wr) => ((ht2.trans (Turn.of BE (Nat.le_refl _))).trans ht : Turn (· = sb) w wr)
    have hs1 : SeenAt w1 sb t.nodes.length ((j : Int) :: S) := sn2.turn (X := fun _ => False) (Turn.of BE (Nat.le_refl _)) (fun h => h)
    clear q0 x0 x1 x2 x3 x4 k0 k1 hb2 sn2 ht2 BE HEW HNO HYES HIFF hsl
    go_wp2_with fail
    go_loopg [14, 15, 16] ld (fun g a fr i wr => ∃ (k : Nat) (D F : Int) (S' : List Int), k ≤ ld ∧ g = ld - k ∧ i = .int .i64 k ∧ a = .int .i64 D ∧ fr = .int .i64 F ∧ 0 ≤ D ∧ lo ≤ F ∧ Hid (k < ld → F = x.from lo k) ∧
      Hid (heightR t (f + 1) (j : Int) lo hi S = kidsR (fun k a b s => heightR t f k a b s) x lo hi (x.kids.drop k) k (D, S')) ∧ Turn (· = sb) w1 wr ∧ SeenAt wr sb t.nodes.length S')
    case atStart => exact ⟨0, 0, lo, (j : Int) :: S, Nat.zero_le _, rfl, rfl, rfl, rfl, Int.le_refl _, Int.le_refl _, Lib.hid (fun _ => by simp [Nd.from]), Lib.hid (by rw [HR.out]; rfl), Turn.refl _ _, hs1⟩
    case round =>
      obtain ⟨k, D, F, S', hk, rfl, rfl, rfl, rfl, hD0, hF0, HF, HREC, ht, hs'⟩ := hrel
      obtain ⟨⟨p0, p1⟩, p2, p3⟩ := HC.out _ ht
      by_cases hlt' : k < ld
      · obtain ⟨K, hK⟩ : ∃ K, x.kids[k]? = some K := ⟨x.kids[k]'(by rw [HLD.out]; exact hlt'), by simp⟩
        obtain ⟨kb, koff, kcap, ke, hkb, hkc⟩ := HKID.out _ (HB.out _ ht) k K hK
        injection ke with ke1 ke2 ke3
        subst ke1 ke3
        obtain ⟨T, hT⟩ : ∃ T, x.upto hi k = T := ⟨_, rfl⟩
        have HSTEP := Lib.hid (HREC.out.trans (kidsR_step (by rw [HLD.out]; exact hlt')))
        have hKe : x.kids[k]'(by rw [HLD.out]; exact hlt') = K := (List.getElem?_eq_some_iff.1 hK).2
        rw [hKe, HF.out hlt' |>.symm, hT] at HSTEP
        have HF' := Lib.hid (show k + 1 < ld → T = x.from lo (k + 1) from fun h => by
          rw [← hT]
          have hlk : k < x.keys.length := by have := HLK.out; have := HLD.out; omega
          simp only [Nd.upto, Nd.from, Nat.add_sub_cancel]; rw [if_pos hlk, if_neg (by omega)])
        have hLkd : lk ≤ ld := by omega
        have HUP : Hid ((k < lk → x.keys[k]? = some T) ∧ (¬ k < lk → T = hi)) := Lib.hid ⟨fun h => by
            have hlk : k < x.keys.length := by have := HLK.out; omega
            rw [← hT]; simp [Nd.upto, hlk], fun h => by
            have hlk : ¬ k < x.keys.length := by have := HLK.out; omega
            rw [← hT]; simp [Nd.upto, hlk]⟩
        clear hK hT hKe
        go_upto_if 140 with (fail)
        go_cut [17] (fun v wx => v = .int .i64 T ∧ wr = wx)
        case first =>
          by_cases hk2 : k < lk
          · obtain ⟨b2, off2, cap2, e2, hb2', hc2⟩ := HKEY.out _ (HB.out _ ht) k T (HUP.out.1 hk2)
            injection e2 with f1 f2 f3
            subst f1 f3
            clear f2 ke2
            go_wp2
            go_meet
            exact ⟨rfl, rfl⟩
          · have HTE := Lib.hid (HUP.out.2 hk2)
            clear ke2
            go_wp2
            go_meet
            exact ⟨by rw [HTE.out], rfl⟩
        case rest =>
          obtain ⟨rfl, rfl⟩ := hcut
          by_cases g1 : lo ≤ T ∧ T ≤ hi
          · have d5 : inR T lo hi = true := inR_true.2 g1
            have HD1 := Lib.hid (show d + 1 = 13 - f by have := HD0.out; omega)
            have g1a : 0 ≤ T := by omega
            have g1b : T ≤ 9223372036854775807 := by omega
            have g1c : lo ≤ T := g1.1
            have hwd : IntKind.i64.wrap (d + 1) = d + 1 := IntWalk.i64_in _ (by omega)
            have HB0 := Lib.hid (HB.out _ ht)
            have hix := fun w => idx_int (ab := kb) (aoff := koff) (n := ld) (cap := ndd) (show (k : Int) = ((k : Nat) : Int) by rfl) hlt' w
            cases hR : heightR t f K F T S' with
            | none =>
              have HRN := Lib.hid (show heightR t (f + 1) (j : Int) lo hi S = none by rw [HSTEP.out, if_pos g1]; simp only [hR])
              have HCALL := Lib.hid (HIH.out K F T (d + 1) S' wr.drew cap HD1.out HB0.out.drew (hs'.turn (X := fun _ => False) (Turn.refl _ _).drew (fun h => h)) g1b (by omega))
              rw [hR] at HCALL
              clear hR g1
              go_upto_region 23 with ((go_at_call 33; (with_reducible refine (in_any _ _ _ _).mono ?_); rintro e w' ⟨rfl, rfl⟩))
              refine wp_region_still_tail 11 (by kernel_rfl) (by kernel_rfl) ?_
              (simp only [List.take_succ_cons, List.take_zero, List.drop_succ_cons, List.drop_zero]; (repeat ((with_reducible refine wpStill_step (fun K hK => ?_)); go_simp; (with_reducible refine hK _ ?_); clear hK K)); (with_reducible refine wpStill_nil ?_))
              change wpList _ _ _ _ _ wr.drew
              go_wp2_with ((go_at_call 89; (with_reducible refine HCALL.out.mono ?_); rintro e w2 ⟨ht2, rfl⟩))
              go_ret
              rw [HRN.out]
              exact post_none ((HT.out _ ht).trans ((Turn.refl _ _).drew.trans ht2)) rfl
            | some p =>
              obtain ⟨h, S2⟩ := p
              have hpos := heightR_pos (by omega) hR
              obtain ⟨hp1, hp2, hp3⟩ := hpos
              have HST := Lib.hid (show heightR t (f + 1) (j : Int) lo hi S = if D = 0 ∨ h = D then kidsR (fun k a b s => heightR t f k a b s) x lo hi (x.kids.drop (k + 1)) (k + 1) (h, S2) else none by rw [HSTEP.out, if_pos g1]; simp only [hR])
              have HCALL := Lib.hid (HIH.out K F T (d + 1) S' wr.drew cap HD1.out HB0.out.drew (hs'.turn (X := fun _ => False) (Turn.refl _ _).drew (fun h => h)) g1b (by omega))
              rw [hR] at HCALL
              have hz : (h == 0) = false := by simp; omega
              clear hR g1
              by_cases g2 : D = 0 ∨ h = D
              · have HST' := Lib.hid (HST.out.trans (if_pos g2))
                have hall : D = 0 ∨ (D ≠ 0 ∧ h = D) := by omega
                clear g2 HST
                rcases hall with rfl | ⟨hall, rfl⟩
                · go_upto_region 23 with ((go_at_call 33; (with_reducible refine (in_any _ _ _ _).mono ?_); rintro e w' ⟨rfl, rfl⟩))
                  refine wp_region_still_tail 11 (by kernel_rfl) (by kernel_rfl) ?_
                  (simp only [List.take_succ_cons, List.take_zero, List.drop_succ_cons, List.drop_zero]; (repeat ((with_reducible refine wpStill_step (fun K hK => ?_)); go_simp; (with_reducible refine hK _ ?_); clear hK K)); (with_reducible refine wpStill_nil ?_))
                  change wpList _ _ _ _ _ wr.drew
                  clear hix hwd
                  go_wp2_with ((go_at_call 89; (with_reducible refine HCALL.out.mono ?_); rintro e w2 ⟨ht2, rfl, hs2⟩))
                  go_roundg (ld - (k + 1))
                  case measure => omega
                  case rel => exact ⟨k + 1, h, T, S2, by omega, rfl, by go_num, rfl, rfl, by omega, g1c, HF', HST', ht.trans ((Turn.refl _ _).drew.trans ht2), hs2⟩
                · have hall' : 0 < h := by omega
                  go_upto_region 23 with ((go_at_call 33; (with_reducible refine (in_any _ _ _ _).mono ?_); rintro e w' ⟨rfl, rfl⟩))
                  refine wp_region_still_tail 11 (by kernel_rfl) (by kernel_rfl) ?_
                  (simp only [List.take_succ_cons, List.take_zero, List.drop_succ_cons, List.drop_zero]; (repeat ((with_reducible refine wpStill_step (fun K hK => ?_)); go_simp; (with_reducible refine hK _ ?_); clear hK K)); (with_reducible refine wpStill_nil ?_))
                  change wpList _ _ _ _ _ wr.drew
                  clear hix hwd
                  go_wp2_with ((go_at_call 89; (with_reducible refine HCALL.out.mono ?_); rintro e w2 ⟨ht2, rfl, hs2⟩))
                  go_roundg (ld - (k + 1))
                  case measure => omega
                  case rel => exact ⟨k + 1, h, T, S2, by omega, rfl, by go_num, rfl, rfl, by omega, g1c, HF', HST', ht.trans ((Turn.refl _ _).drew.trans ht2), hs2⟩
              · have HST' := Lib.hid (HST.out.trans (if_neg g2))
                have hall : 0 < D := by omega
                have hne : (h != D) = true := by simp; omega
                clear g2 HST
                go_upto_region 23 with ((go_at_call 33; (with_reducible refine (in_any _ _ _ _).mono ?_); rintro e w' ⟨rfl, rfl⟩))
                refine wp_region_still_tail 11 (by kernel_rfl) (by kernel_rfl) ?_
                (simp only [List.take_succ_cons, List.take_zero, List.drop_succ_cons, List.drop_zero]; (repeat ((with_reducible refine wpStill_step (fun K hK => ?_)); go_simp; (with_reducible refine hK _ ?_); clear hK K)); (with_reducible refine wpStill_nil ?_))
                change wpList _ _ _ _ _ wr.drew
                clear hix hwd
                go_wp2_with ((go_at_call 89; (with_reducible refine HCALL.out.mono ?_); rintro e w2 ⟨ht2, rfl, hs2⟩))
                go_ret
                rw [HST'.out]
                exact post_none ((HT.out _ ht).trans ((Turn.refl _ _).drew.trans ht2)) rfl
          · have d5 : inR T lo hi = false := inR_false.2 (by omega)
            have HRN := Lib.hid (show heightR t (f + 1) (j : Int) lo hi S = none by rw [HSTEP.out, if_neg g1])
            clear g1
            go_wp2_with ((go_at_call 33; (with_reducible refine (in_any _ _ _ _).mono ?_); rintro e w' ⟨rfl, rfl⟩))
            go_ret
            rw [HRN.out]
            exact post_none (HT.out _ ht) rfl
      · have HRES := Lib.hid (HREC.out.trans (kidsR_end (by rw [HLD.out]; omega)))
        go_wp2
        go_ret
        rw [HRES.out]
        exact post_some (HT.out _ ht) rfl hs'
  · have HR := Lib.hid (HNO.out hok)
    have hiff := HIFF.out
    by_cases g1 : le = 0
    · subst g1
      by_cases g2 : 2 ≤ ld ∧ ld ≤ 4
      · have d2 : inR (ld : Int) 2 4 = true := inR_true.2 (by omega)
        by_cases g3 : lk + 1 = ld
        · have d3 : ((lk : Int) + 1 != (ld : Int)) = false := by simp; omega
          by_cases g4 : lb ≤ 8
          · have hbe : be = false := by
              cases be with
              | false => rfl
              | true => exact absurd (hiff.2 ⟨rfl, g2.1, g2.2, g3, g4, rfl⟩) hok
            subst hbe
            clear hok hiff g2 g3 HIFF
            go_wp2_with (first
              | (go_at_call 33; (with_reducible refine (in_any _ _ _ _).mono ?_); rintro e w' ⟨rfl, rfl⟩)
              | (go_at_call 100; (with_reducible refine HEW.out.mono ?_); rintro e' w1 ⟨rfl, BE⟩))
            go_ret
            rw [HR.out]
            exact post_none (ht2.trans (Turn.of BE (Nat.le_refl _))) rfl
          · have g4' : 8 < lb := by omega
            clear hok hiff g2 g3 g4 HIFF
            go_wp2_with ((go_at_call 33; (with_reducible refine (in_any _ _ _ _).mono ?_); rintro e w' ⟨rfl, rfl⟩))
            go_ret
            rw [HR.out]
            exact post_none ht2 rfl
        · have d3 : ((lk : Int) + 1 != (ld : Int)) = true := by simp; omega
          clear hok hiff g2 g3 HIFF
          go_wp2_with ((go_at_call 33; (with_reducible refine (in_any _ _ _ _).mono ?_); rintro e w' ⟨rfl, rfl⟩))
          go_ret
          rw [HR.out]
          exact post_none ht2 rfl
      · have d2 : inR (ld : Int) 2 4 = false := inR_false.2 (by omega)
        clear hok hiff g2 HIFF
        go_wp2_with ((go_at_call 33; (with_reducible refine (in_any _ _ _ _).mono ?_); rintro e w' ⟨rfl, rfl⟩))
        go_ret
        rw [HR.out]
        exact post_none ht2 rfl
    · have g1' : 0 < le := by omega
      clear hok hiff g1 HIFF
      go_wp2
      go_ret
      rw [HR.out]
      exact post_none ht2 rfl

/-- 'height', whatever the node. -/
theorem height_any {t : Tr} {nv : Value} {w0 : World} (h0 : NodesAt w0 nv t.nodes) {sb : Nat} (hsb : w0.heap.size ≤ sb) : ∀ (f : Nat), f ≤ 12 → ∀ (n lo hi d : Int) (S : List Int) (w : World) (cap : Nat), d = 13 - f → Below w0.heap.size w0 w → SeenAt w sb t.nodes.length S → hi ≤ 9223372036854775807 → 0 ≤ lo →
    Calls Tryd.prog 89 #[.agg #[nv, .int .i64 t.root], .int .i64 n, .int .i64 lo, .int .i64 hi, .int .i64 d, .slice (some ⟨sb, 0, none⟩) t.nodes.length cap] w (HeightPost w0 sb t.nodes.length (heightR t f n lo hi S) w) := by
  intro f
  induction f with
  | zero => intro _ n lo hi d S w cap hd hb hs hhi hlo; exact height_bad h0 (cap := cap) (N := t.nodes.length) hd (by omega) (.inl rfl)
  | succ f ih =>
    intro hf n lo hi d S w cap hd hb hs hhi hlo
    cases hx : t.at? n with
    | none => exact height_bad h0 (cap := cap) (N := t.nodes.length) hd hf (.inr hx)
    | some x =>
      by_cases hbad : n ∈ S ∨ ¬ lo < hi
      · exact height_seen h0 hb hsb hs (by omega) (by omega) hx hbad
      · have h1 : n ∉ S := fun h => hbad (.inl h)
        have h2 : lo < hi := Classical.byContradiction fun h => hbad (.inr h)
        cases hl : x.leaf with
        | true => exact height_leaf h0 hb hsb hs (by omega) (by omega) (by omega) hhi hlo hx h1 h2 hl
        | false => exact height_inner h0 hb hsb hs (by omega) (by omega) (fun n lo hi d S w cap => ih (by omega) n lo hi d S w cap) hhi hlo hx h1 h2 hl
end Go.Proofs.YtijcaejdgicbmaaDoor

/- The walk of the document's TreeFault. -/
namespace Go.Proofs.YtijcaejdgicbmaaDoor
open Go.RowKit

theorem Tryd.iInt0 : (Tryd.prog.info? 3).map (fun i => (i.zero, i.size, i.bytes)) = some (some (.int .i64 0), 1, 8) := by kernel_rfl

theorem seen_made {w : World} {B sb n : Nat} {e : TypeId} (h : w.ownsRow B e 1 (.slice (some ⟨sb, 0, none⟩) n n) n (madeCells #[.int .i64 0] (n * 1)).toList) : SeenAt w sb n [] := by
  · obtain ⟨hl, ⟨h0, _⟩ | ⟨g, cap, cur, e1, hb, hg, h1, h2, h3, h4⟩⟩ := h
    · cases h0
    · injection e1 with e1 e2 e3
      injection e1 with e1; injection e1 with e1
      subst e1 e3
      refine ⟨(Array.getElem?_eq_some_iff.1 hg).1, fun i hi => ⟨?_, by simp [World.frozen?, hg]⟩⟩
      have hf : (madeCells #[.int .i64 0] (n * 1)).toList[i]? = some (.int .i64 0) := by
        rw [toList_madeCells_one, List.getElem?_replicate, if_pos (by omega)]
      rw [← h4, List.getElem?_take, if_pos (by omega)] at hf
      simp only [World.cell?, hg]
      simpa using hf

theorem tree_at {t : Tr} {w : World} {v : Value} (h : TreeAt w v t) : ∃ nv, v = .agg #[nv, .int .i64 t.root] ∧ NodesAt w nv t.nodes := h

set_option maxRecDepth 100000 in
set_option maxHeartbeats 1000000 in
theorem treeFault_any {v : Value} {t : Tr} {w : World} (h : TreeAt w v t) :
    Calls Tryd.prog 73 #[v] w fun e w' => e = .returned (.int .i64 (treeFault t)) ∧ Below w.heap.size w w' := by
  obtain ⟨nv, rfl, hn⟩ := h
  rw [← faultS_eq]
  obtain ⟨⟨ao, cap, rfl⟩, hlen⟩ := hn.len
  by_cases hbig : 2000 < t.nodes.length
  · have HR := Lib.hid (show faultS t = 1 from if_pos hbig)
    go_enter Tryd.func73, Tryd.ntmps73
    go_wp2
    go_ret
    exact ⟨ret_int HR.out.symm, (by repeat (first | exact Below.refl _ _ | assumption | refine below_dn ?_ _ | refine Below.drew ?_ | refine Below.alloc ?_ (by first | omega | (simp; done) | (simp; omega)) _ | refine Below.setCell ?_ (by first | omega | (simp; done) | (simp; omega)) _))⟩
  · have hsm : t.nodes.length ≤ 2000 := by omega
    have HR := Lib.hid (show faultS t = _ from if_neg hbig)
    obtain ⟨i0, hi, hz0, hz1, hz2⟩ := info_parts Tryd.iInt0
    clear hbig
    go_enter Tryd.func73, Tryd.ntmps73
    go_upto_region 4 with (first | (at_make; refine wpList_make_full _ rfl _ _ 77 rfl (w.heap.size + 1) 3 i0 (.int .i64 0) 1 Tryd.underlying77 hi hz0 hz1 _ _ _ _ t.nodes.length rfl rfl rfl rfl (by rw [hz2]; omega) (by unfold maxLen; omega) (by simp) ?_; intro w1 hown hgrow))
    have hw0 : (w.alloc (.cells #[.slice ao t.nodes.length cap, .int .i64 t.root] 25)).heap.size = w.heap.size + 1 := by simp
    rw [hw0] at hown
    have hb1 : Below w.heap.size w w1 := Below.grown ((Below.refl _ _).alloc (Nat.le_refl _) _) hgrow (by simp) (fun _ h => by cases h)
    have hs1 := seen_made hown
    have q0 : w1.cell? ⟨w.heap.size, 0, none⟩ = some (.slice ao t.nodes.length cap) ∧ w1.cell? ⟨w.heap.size, 1, none⟩ = some (.int .i64 t.root) := by
      have hk : w1.heap[w.heap.size]? = some (.cells #[.slice ao t.nodes.length cap, .int .i64 t.root] 25) := (hgrow.block _ (by simp) (by simp)).trans (heap_new _ _ rfl)
      simp [World.cell?, hk]
    obtain ⟨q0, q1⟩ := q0
    have HCALL := Lib.hid (height_any hn (sb := w.heap.size + 1) (by omega) 12 (Nat.le_refl _) t.root 0 1099511627776 1 [] w1 t.nodes.length (by decide) hb1 hs1 (by omega) (by omega))
    have hz := fun h S (e : heightR t 12 t.root 0 1099511627776 [] = some (h, S)) => (heightR_pos (by omega) e).1
    clear hown hgrow hs1 hw0 hi hz0 hz1 hz2 hn
    cases hr : heightR t 12 t.root 0 1099511627776 [] with
    | none =>
      rw [hr] at HCALL
      have HR' := Lib.hid (show faultS t = 7 by rw [HR.out, hr])
      clear hr hz
      go_wp2_with ((go_at_call 89; (with_reducible refine HCALL.out.mono ?_); rintro e w2 ⟨ht2, rfl⟩))
      go_ret
      exact ⟨ret_int HR'.out.symm, ht2.below hb1 hb1.size (fun i hi => by omega)⟩
    | some p =>
      obtain ⟨h, S⟩ := p
      rw [hr] at HCALL
      have hh := hz h S hr
      have hh0 : (h == 0) = false := by simp; omega
      have HR' := Lib.hid (show faultS t = if ∀ i : Nat, i < t.nodes.length → (i : Int) ∈ S then 0 else 7 by rw [HR.out, hr])
      clear hr hz
      go_wp2_with ((go_at_call 89; (with_reducible refine HCALL.out.mono ?_); rintro e w2 ⟨ht2, rfl, hs2⟩))
      have hb2 : Below w.heap.size w w2 := ht2.below hb1 hb1.size (fun i hi => by omega)
      go_loopg [4] t.nodes.length (fun g i wr => ∃ k : Nat, k ≤ t.nodes.length ∧ g = t.nodes.length - k ∧ i = .int .i64 k ∧ (∀ i : Nat, i < k → (i : Int) ∈ S) ∧ w2 = wr)
      case atStart => exact ⟨0, Nat.zero_le _, rfl, rfl, fun i hi => by omega, rfl⟩
      case round =>
        obtain ⟨k, hk, rfl, rfl, HA, rfl⟩ := hrel
        have HA' := Lib.hid HA
        clear HA
        by_cases hlt : k < t.nodes.length
        · obtain ⟨s0, -⟩ := hs2.2 k hlt
          have hix := fun w' => idx_int (ab := w.heap.size + 1) (aoff := 0) (n := t.nodes.length) (cap := t.nodes.length) (show (k : Int) = ((k : Nat) : Int) by rfl) hlt w'
          by_cases hks : (k : Int) ∈ S
          · rw [if_pos hks] at s0
            have HS := Lib.hid hks
            clear hks
            go_wp2
            go_roundg (t.nodes.length - (k + 1))
            case measure => omega
            case rel => exact ⟨k + 1, by omega, rfl, by go_num, fun i hi => by by_cases h : i = k; · rw [h]; exact HS.out
                                                                               · exact HA'.out i (by omega), rfl⟩
          · rw [if_neg hks] at s0
            have HS := Lib.hid (show faultS t = 7 by rw [HR'.out]; exact if_neg fun h => hks (h k hlt))
            clear hks
            go_wp2
            go_ret
            exact ⟨ret_int HS.out.symm, hb2⟩
        · have HS := Lib.hid (show faultS t = 0 by rw [HR'.out]; exact if_pos fun i hi => HA'.out i (by omega))
          go_wp2
          go_ret
          exact ⟨ret_int HS.out.symm, hb2⟩
end Go.Proofs.YtijcaejdgicbmaaDoor
