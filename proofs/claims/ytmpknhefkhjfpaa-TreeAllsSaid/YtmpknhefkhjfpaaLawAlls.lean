/- The law TreeAlls over a tree in memory. -/
import Derived.Test.YtmpknhefkhjfpaaAllM
import Derived.Test.YtmpknhefkhjfpaaEnts
import Derived.Test.YtmpknhefkhjfpaaLawCopies
namespace Go.Proofs.Ytmpknhefkhjfpaa
open Go.RowKit

def allE (f : Int) (r : Option (List Ent)) : Int := if f = 0 then (if r.isSome then 0 else 1) else f
def allL (f : Int) (r : Option (List Ent)) : List Ent := if f = 0 then r.getD [] else []
theorem AllPost.use {B : Nat} {w : World} {f : Int} {r : Option (List Ent)} {e : Ending} {w' : World} (h : AllPost B w f r e w') :
    ∃ v, e = .returned (.tuple #[v, .int .i64 (allE f r)]) ∧ Below B w w' ∧ OwnEnts B w' v (allL f r) := by
  obtain ⟨hb, h1, h2⟩ := h
  by_cases hf : f = 0
  · have h3 := h2 hf
    unfold allE allL
    rw [if_pos hf, if_pos hf]
    cases r with
    | none => exact ⟨_, h3, hb, OwnEnts.nil _ _⟩
    | some l => obtain ⟨v', e1, e2⟩ := h3; exact ⟨v', e1, hb, e2⟩
  · unfold allE allL
    rw [if_neg hf, if_neg hf]
    exact ⟨_, h1 hf, hb, OwnEnts.nil _ _⟩
theorem allL_len (t : Tr) (lo hi : Int) : (allL (treeFault t) (allR t lo hi)).length ≤ 1000000 := by
  unfold allL
  split
  · rename_i hf
    obtain ⟨h1, h2⟩ := treeFault_ok hf
    have h3 := valid_len h2
    cases hr : allR t lo hi with
    | none => simp
    | some l =>
      obtain ⟨_, _, _, h4, _⟩ := bagC_some (checked_filter (valid_checked h2)) hr
      have h5 := List.length_filter_le (inRange lo hi) t.all
      simp only [Option.getD_some]; omega
  · simp

set_option maxRecDepth 100000 in
set_option maxHeartbeats 1000000 in
theorem treeAlls_any {v : Value} {t : Tr} {lo hi : Int} {w : World} (h : TreeAt w v t) (_ : i64 lo) (_ : i64 hi) :
    Calls Try.prog 9 #[v, .int .i64 lo, .int .i64 hi] w fun e w' => e = .returned (.bool true) ∧ Below w.heap.size w w' := by
  obtain ⟨nv, rfl, hn⟩ := h
  obtain ⟨ao, n, cap, rfl⟩ := nodes_slice hn
  obtain ⟨E, hE⟩ : ∃ E, allE (treeFault t) (allR t lo hi) = E := ⟨_, rfl⟩
  obtain ⟨L, hL⟩ : ∃ L, allL (treeFault t) (allR t lo hi) = L := ⟨_, rfl⟩
  have hlen := allL_len t lo hi
  rw [hL] at hlen
  have HC := Lib.hid fun w' (hb : Below w.heap.size w w') => (by
    have := all_any (lo := lo) (hi := hi) (t := t) (w := w') (v := .agg #[.slice ao n cap, .int .i64 t.root]) ⟨_, rfl, hn.below hb (Nat.le_refl _)⟩
    refine this.mono fun e w'' hp => ?_
    have := hp.use; rw [hE, hL] at this; exact this :
    Calls Try.prog 24 #[.agg #[.slice ao n cap, .int .i64 t.root], .int .i64 lo, .int .i64 hi] w' fun e w'' => ∃ v, e = .returned (.tuple #[v, .int .i64 E]) ∧ Below w'.heap.size w' w'' ∧ OwnEnts w'.heap.size w'' v L)
  have HG := Lib.hid fun w' (hb : Below w.heap.size w w') => (by
    have := allOf_any (lo := lo) (hi := hi) (t := t) (w := w') (v := .agg #[.slice ao n cap, .int .i64 t.root]) ⟨_, rfl, hn.below hb (Nat.le_refl _)⟩
    refine this.mono fun e w'' hp => ?_
    have := hp.use; rw [hE, hL] at this; exact this :
    Calls Try.prog 25 #[.agg #[.slice ao n cap, .int .i64 t.root], .int .i64 lo, .int .i64 hi] w' fun e w'' => ∃ v, e = .returned (.tuple #[v, .int .i64 E]) ∧ Below w'.heap.size w' w'' ∧ OwnEnts w'.heap.size w'' v L)
  have HLEN := Lib.hid hlen
  clear hE hL hn hlen
  go_enter Try.func9, Try.ntmps9
  go_upto_region 3 with (first
    | (go_at_call 24; (with_reducible refine (HC.out _ ?_).mono ?_); (exact (by repeat (first | with_reducible exact Below.refl _ _ | with_reducible assumption | with_reducible refine below_dn ?_ _ | with_reducible refine Below.drew ?_ | with_reducible refine Below.alloc ?_ (by first | omega | (simp; done) | (simp; omega) | (simp [drew_size]; done) | (simp [drew_size]; omega)) _ | with_reducible refine Below.setCell ?_ (by first | omega | (simp; done) | (simp; omega) | (simp [drew_size]; done) | (simp [drew_size]; omega)) _))); rintro e w1 ⟨v1, rfl, hb1, ho1⟩; obtain ⟨k1, k2, k3⟩ := keep1 hb1 (B := w.heap.size) (by simp); have hbw1 : Below w.heap.size w w1 := Below.trans' (by repeat (first | with_reducible exact Below.refl _ _ | with_reducible assumption | with_reducible refine below_dn ?_ _ | with_reducible refine Below.drew ?_ | with_reducible refine Below.alloc ?_ (by first | omega | (simp; done) | (simp; omega) | (simp [drew_size]; done) | (simp [drew_size]; omega)) _ | with_reducible refine Below.setCell ?_ (by first | omega | (simp; done) | (simp; omega) | (simp [drew_size]; done) | (simp [drew_size]; omega)) _)) hb1 (by first | omega | (simp; done) | (simp; omega) | (simp [drew_size]; done) | (simp [drew_size]; omega)))
    | (go_at_call 25; (with_reducible refine (HG.out _ ?_).mono ?_); (exact (by repeat (first | with_reducible exact Below.refl _ _ | with_reducible assumption | with_reducible refine below_dn ?_ _ | with_reducible refine Below.drew ?_ | with_reducible refine Below.alloc ?_ (by first | omega | (simp; done) | (simp; omega) | (simp [drew_size]; done) | (simp [drew_size]; omega)) _ | with_reducible refine Below.setCell ?_ (by first | omega | (simp; done) | (simp; omega) | (simp [drew_size]; done) | (simp [drew_size]; omega)) _))); rintro e w2 ⟨v2, rfl, hb2, ho2⟩; have hbw2 : Below w.heap.size w w2 := Below.trans' (by repeat (first | with_reducible exact Below.refl _ _ | with_reducible assumption | with_reducible refine below_dn ?_ _ | with_reducible refine Below.drew ?_ | with_reducible refine Below.alloc ?_ (by first | omega | (simp; done) | (simp; omega) | (simp [drew_size]; done) | (simp [drew_size]; omega)) _ | with_reducible refine Below.setCell ?_ (by first | omega | (simp; done) | (simp; omega) | (simp [drew_size]; done) | (simp [drew_size]; omega)) _)) hb2 (by first | omega | (simp; done) | (simp; omega) | (simp [drew_size]; done) | (simp [drew_size]; omega))))
  have HO := Lib.hid fun w' (hb : Below w2.heap.size w2 w') => (by
    have := lawSameEntries_any (((ho1.below hb2 (Nat.le_refl _)).below hb (Nat.le_refl _)).at HLEN.out) ((ho2.below hb (Nat.le_refl _)).at HLEN.out)
    simpa using this :
    Calls Try.prog 26 #[v1, v2] w' fun e w'' => e = .returned (.bool true) ∧ Below w'.heap.size w' w'')
  have hz2 := hbw2.size
  obtain ⟨s1, c1, rfl⟩ := ho1.isSlice
  obtain ⟨s2, c2, rfl⟩ := ho2.isSlice
  go_wp2_with ((go_at_call 26; (with_reducible refine (HO.out _ ?_).mono ?_); (exact (by repeat (first | with_reducible exact Below.refl _ _ | with_reducible assumption | with_reducible refine below_dn ?_ _ | with_reducible refine Below.drew ?_ | with_reducible refine Below.alloc ?_ (by first | omega | (simp; done) | (simp; omega) | (simp [drew_size]; done) | (simp [drew_size]; omega)) _ | with_reducible refine Below.setCell ?_ (by first | omega | (simp; done) | (simp; omega) | (simp [drew_size]; done) | (simp [drew_size]; omega)) _))); rintro e w3 ⟨rfl, hb3⟩; have hbw3 : Below w.heap.size w w3 := Below.trans' (by repeat (first | with_reducible exact Below.refl _ _ | with_reducible assumption | with_reducible refine below_dn ?_ _ | with_reducible refine Below.drew ?_ | with_reducible refine Below.alloc ?_ (by first | omega | (simp; done) | (simp; omega) | (simp [drew_size]; done) | (simp [drew_size]; omega)) _ | with_reducible refine Below.setCell ?_ (by first | omega | (simp; done) | (simp; omega) | (simp [drew_size]; done) | (simp [drew_size]; omega)) _)) hb3 (by first | omega | (simp; done) | (simp; omega) | (simp [drew_size]; done) | (simp [drew_size]; omega))))
  go_ret
  exact ⟨by first | rfl | simp, (by repeat (first | with_reducible exact Below.refl _ _ | with_reducible assumption | with_reducible refine below_dn ?_ _ | with_reducible refine Below.drew ?_ | with_reducible refine Below.alloc ?_ (by first | omega | (simp; done) | (simp; omega) | (simp [drew_size]; done) | (simp [drew_size]; omega)) _ | with_reducible refine Below.setCell ?_ (by first | omega | (simp; done) | (simp; omega) | (simp [drew_size]; done) | (simp [drew_size]; omega)) _))⟩
end Go.Proofs.Ytmpknhefkhjfpaa
