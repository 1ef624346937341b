/- The walk of the document's height of a node. -/
import Derived.Test.YtggcinmjmkfboaaPA
import Derived.Test.YtggcinmjmkfboaaSN
import Derived.Test.YtggcinmjmkfboaaMay
import Derived.StillTailTactics
namespace Go.Proofs.Ytggcinmjmkfboaa
open Go.RowKit

/-- How often each node was seen: the block sb. -/
def SeenAt (w : World) (sb N : Nat) (S : List Int) : Prop := sb < w.heap.size ∧ ∀ i : Nat, i < N → w.cell? ⟨sb, i, none⟩ = some (.int .i64 (if (i : Int) ∈ S then 1 else 0)) ∧ w.frozen? ⟨sb, i, none⟩ = false
theorem SeenAt.turn {w w' : World} {sb N : Nat} {S : List Int} (h : SeenAt w sb N S) {X : Nat → Prop} (ht : Turn X w w') (hx : ¬ X sb) : SeenAt w' sb N S :=
  ⟨Nat.lt_of_lt_of_le h.1 ht.size, fun i hi => ⟨(ht.cell h.1 hx i).trans (h.2 i hi).1, (ht.frozen h.1 hx i).trans (h.2 i hi).2⟩⟩
theorem SeenAt.set {w : World} {sb N : Nat} {S : List Int} (h : SeenAt w sb N S) {n : Int} {j : Nat} (hj : n = j) (hn : j < N) : SeenAt (w.setCell ⟨sb, j, none⟩ (.int .i64 1)) sb N (n :: S) := by
  refine ⟨by rw [heap_setCell_size]; exact h.1, fun i hi => ?_⟩
  by_cases hij : i = j
  · subst hij
    refine ⟨?_, ?_⟩
    · rw [World.cell?_setCell_same' _ _ _ (by rw [(h.2 i hi).1]; rfl), if_pos (by simp [hj])]
    · rw [← (h.2 i hi).2]; simp [World.frozen?, World.setCell, Array.getElem?_modify]
      cases w.heap[sb]? with
      | none => rfl
      | some o => cases o <;> rfl
  · refine ⟨?_, ?_⟩
    · rw [World.cell?_setCell_other _ _ _ _ (by simp [Ne.symm hij]), (h.2 i hi).1]
      have : ((i : Int) ∈ n :: S) ↔ (i : Int) ∈ S := by simp [hj]; omega
      simp only [this]
    · rw [← (h.2 i hi).2]; simp [World.frozen?, World.setCell, Array.getElem?_modify]
      cases w.heap[sb]? with
      | none => rfl
      | some o => cases o <;> rfl

/-- What a call of 'height' leaves. -/
def HeightPost (w0 : World) (sb N : Nat) (r : Option (Int × List Int)) (w : World) (e : Ending) (w' : World) : Prop :=
  Turn (· = sb) w w' ∧ (match r with | none => e = .returned (.int .i64 0) | some (h, S') => e = .returned (.int .i64 h) ∧ SeenAt w' sb N S')


theorem post_none {w0 : World} {sb N : Nat} {w w' : World} {e : Ending} (ht : Turn (· = sb) w w') (he : e = .returned (.int .i64 0)) : HeightPost w0 sb N none w e w' := ⟨ht, he⟩
theorem post_some {w0 : World} {sb N : Nat} {w w' : World} {e : Ending} {h : Int} {S : List Int} (ht : Turn (· = sb) w w') (he : e = .returned (.int .i64 h)) (hs : SeenAt w' sb N S) : HeightPost w0 sb N (some (h, S)) w e w' := ⟨ht, he, hs⟩

set_option maxRecDepth 100000 in
set_option maxHeartbeats 1000000 in
theorem height_bad {t : Tr} {nv : Value} {w0 : World} (h0 : NodesAt w0 nv t.nodes) {f : Nat} {n lo hi d : Int} {S : List Int} {w : World} {sb N cap : Nat} (hd : d = 13 - f) (hf : f ≤ 12) (hbad : f = 0 ∨ t.at? n = none) :
    Calls Try.prog 43 #[.agg #[nv, .int .i64 t.root], .int .i64 n, .int .i64 lo, .int .i64 hi, .int .i64 d, .slice (some ⟨sb, 0, none⟩) N cap] w (HeightPost w0 sb N (heightR t f n lo hi S) w) := by
  have hr : heightR t f n lo hi S = none := by
    cases f with
    | zero => rfl
    | succ f => exact heightR_none (by rcases hbad with h | h; cases h; exact h)
  rw [hr]
  obtain ⟨⟨ao, c, rfl⟩, hlen⟩ := h0.len
  have hw1 : IntKind.i64.wrap ((t.nodes.length : Int) - 1) = (t.nodes.length : Int) - 1 := IntWalk.i64_in _ (by omega)
  have fin : ∀ w', HeightPost w0 sb N none w (.returned (.int .i64 0)) (w.alloc w') := fun o => ⟨(Turn.refl _ w).alloc o, rfl⟩
  by_cases hin : t.at? n = none
  · have hn := at?_none hin
    have d1 : inR n 0 ((t.nodes.length : Int) - 1) = false := inR_false.2 (by omega)
    have FIN := Lib.hid fin
    clear hr hbad hd hin hn fin h0
    go_enter Try.func43, Try.ntmps43
    go_wp2_with (go_at_call 16; refine (in_any _ _ _ _).mono ?_; rintro e w' ⟨rfl, rfl⟩)
    go_ret
    exact FIN.out _
  · obtain rfl : f = 0 := by rcases hbad with h | h; exact h; exact absurd h hin
    obtain ⟨x, hx⟩ := Option.ne_none_iff_exists'.1 hin
    have hn := at?_get hx
    have d1 : inR n 0 ((t.nodes.length : Int) - 1) = true := inR_true.2 (by omega)
    have d2 : (12 : Int) < d := by omega
    have FIN := Lib.hid fin
    clear hr hbad hd hin hn fin h0 hx
    go_enter Try.func43, Try.ntmps43
    go_wp2_with (go_at_call 16; refine (in_any _ _ _ _).mono ?_; rintro e w' ⟨rfl, rfl⟩)
    go_ret
    exact FIN.out _

/-- Node i, as it lies in a later world. -/
theorem node_later {w0 w : World} {nv : Value} {xs : List Nd} (h : NodesAt w0 nv xs) (hb : Below w0.heap.size w0 w) {i : Nat} {x : Nd} (hi : xs[i]? = some x) :
    ∃ nb noff cap ev kv dv bv, nv = .slice (some ⟨nb, noff, none⟩) xs.length cap ∧ nb < w0.heap.size ∧ EntsAt w0 ev x.ents ∧ IntsAt w0 kv x.keys ∧ IntsAt w0 dv x.kids ∧ EntsAt w0 bv x.buf ∧
      w.cell? ⟨nb, noff + i * 5, none⟩ = some (.bool x.leaf) ∧ w.cell? ⟨nb, noff + i * 5 + 1, none⟩ = some ev ∧ w.cell? ⟨nb, noff + i * 5 + 2, none⟩ = some kv ∧ w.cell? ⟨nb, noff + i * 5 + 3, none⟩ = some dv ∧ w.cell? ⟨nb, noff + i * 5 + 4, none⟩ = some bv := by
  obtain ⟨nb, noff, cap, r, e, hnb, ⟨h1, h2, h3, h4, h5⟩, c0, c1, c2, c3, c4⟩ := h.get hi
  have g : ∀ o, w.cell? ⟨nb, o, none⟩ = w0.cell? ⟨nb, o, none⟩ := fun o => hb.cell (p := ⟨nb, o, none⟩) hnb
  exact ⟨nb, noff, cap, r.ev, r.kv, r.dv, r.bv, e, hnb, h2, h3, h4, h5, by rw [g, c0, h1], by rw [g, c1], by rw [g, c2], by rw [g, c3], by rw [g, c4]⟩

set_option maxRecDepth 100000 in
set_option maxHeartbeats 1000000 in
theorem height_seen {t : Tr} {nv : Value} {w0 : World} (h0 : NodesAt w0 nv t.nodes) {f : Nat} {n lo hi d : Int} {S : List Int} {w : World} {sb cap : Nat} {x : Nd} (hb0 : Below w0.heap.size w0 w) (hsb : w0.heap.size ≤ sb) (hs : SeenAt w sb t.nodes.length S) (hd1 : 1 ≤ d) (hd : d ≤ 12) (hx : t.at? n = some x) (hbad : n ∈ S ∨ ¬ lo < hi) :
    Calls Try.prog 43 #[.agg #[nv, .int .i64 t.root], .int .i64 n, .int .i64 lo, .int .i64 hi, .int .i64 d, .slice (some ⟨sb, 0, none⟩) t.nodes.length cap] w (HeightPost w0 sb t.nodes.length (heightR t (f + 1) n lo hi S) w) := by
  rw [heightR_seen hx hbad]
  obtain ⟨hn0, hn1, hn2⟩ := at?_get hx
  obtain ⟨j, hj⟩ : ∃ j : Nat, n = j := ⟨n.toNat, by omega⟩
  subst hj
  rw [Int.toNat_natCast] at hn1 hn2
  obtain ⟨nb, noff, c, ev, kv, dv, bv, rfl, hnb, hE, hK, hD, hB, c0, c1, c2, c3, c4⟩ := node_later h0 hb0 hn2
  have hlen := h0.len.2
  obtain ⟨ae, ne, rfl⟩ := hE.isSlice
  obtain ⟨ak, nk, rfl⟩ := hK.isSlice
  obtain ⟨ad, ndd, rfl⟩ := hD.isSlice
  obtain ⟨ab, nbb, rfl⟩ := hB.isSlice
  obtain ⟨s0, s1⟩ := hs.2 j hn1
  have hsl := hs.1
  have hbz := hb0.size
  have hsnb : sb ≠ nb := by omega
  have hnbw : nb < w.heap.size := by omega
  have d1 : inR (j : Int) 0 ((t.nodes.length : Int) - 1) = true := inR_true.2 (by omega)
  have hw1 : IntKind.i64.wrap ((t.nodes.length : Int) - 1) = (t.nodes.length : Int) - 1 := IntWalk.i64_in _ (by omega)
  clear hs h0 hb0 hE hK hD hB hx hn0
  by_cases hjs : (j : Int) ∈ S
  · rw [if_pos hjs] at s0
    clear hbad hjs
    go_enter Try.func43, Try.ntmps43
    go_wp2_with (go_at_call 16; refine (in_any _ _ _ _).mono ?_; rintro e w' ⟨rfl, rfl⟩)
    go_ret
    exact post_none (by repeat (first | exact Turn.refl _ _ | assumption | refine Turn.drewN ?_ _ | refine Turn.drew ?_ | refine Turn.alloc ?_ _ | refine Turn.setCell ?_ (by first | exact .inl rfl | (right; first | omega | (simp; done) | (simp; omega))) _)) rfl
  · rw [if_neg hjs] at s0
    have hge : hi ≤ lo := by rcases hbad with h | h; exact absurd h hjs; omega
    clear hbad hjs
    go_enter Try.func43, Try.ntmps43
    go_wp2_with (go_at_call 16; refine (in_any _ _ _ _).mono ?_; rintro e w' ⟨rfl, rfl⟩)
    go_ret
    exact post_none (by repeat (first | exact Turn.refl _ _ | assumption | refine Turn.drewN ?_ _ | refine Turn.drew ?_ | refine Turn.alloc ?_ _ | refine Turn.setCell ?_ (by first | exact .inl rfl | (right; first | omega | (simp; done) | (simp; omega))) _)) rfl
end Go.Proofs.Ytggcinmjmkfboaa
