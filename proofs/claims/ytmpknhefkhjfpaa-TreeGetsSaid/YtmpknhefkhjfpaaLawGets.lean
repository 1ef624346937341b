/- The law TreeGets over a tree in memory. -/
import Derived.Test.YtmpknhefkhjfpaaGetW
namespace Go.Proofs.Ytmpknhefkhjfpaa
open Go.RowKit

set_option maxRecDepth 100000 in
set_option maxHeartbeats 1000000 in
theorem treeGets_any {v : Value} {t : Tr} {key : Int} {w : World} (h : TreeAt w v t) (hk : i64 key) :
    Calls Try.prog 8 #[v, .int .i64 key] w fun e w' => e = .returned (.bool true) ∧ Below w.heap.size w w' := by
  obtain ⟨nv, rfl, hn⟩ := h
  obtain ⟨ao, n, cap, rfl⟩ := nodes_slice hn
  obtain ⟨R, E, hRE⟩ : ∃ R E, gotS t key = (R, E) := ⟨_, _, rfl⟩
  have HC := Lib.hid fun w' (hb : Below w.heap.size w w') => (by have := get_any (key := key) (t := t) (w := w') (v := .agg #[.slice ao n cap, .int .i64 t.root]) ⟨_, rfl, hn.below hb (Nat.le_refl _)⟩; rw [hRE] at this; exact this :
    Calls Try.prog 22 #[.agg #[.slice ao n cap, .int .i64 t.root], .int .i64 key] w' fun e w'' => e = .returned (.tuple #[.agg #[.int .i64 R.c, .int .i64 R.s, .int .i64 R.mi, .int .i64 R.ma, .int .i64 R.t, .int .i64 R.l], .int .i64 E]) ∧ Below w'.heap.size w' w'')
  have HG := Lib.hid fun w' (hb : Below w.heap.size w w') => (by have := gotOf_any (key := key) (t := t) (w := w') (v := .agg #[.slice ao n cap, .int .i64 t.root]) ⟨_, rfl, hn.below hb (Nat.le_refl _)⟩ hk.1 hk.2; rw [hRE] at this; exact this :
    Calls Try.prog 23 #[.agg #[.slice ao n cap, .int .i64 t.root], .int .i64 key] w' fun e w'' => e = .returned (.tuple #[.agg #[.int .i64 R.c, .int .i64 R.s, .int .i64 R.mi, .int .i64 R.ma, .int .i64 R.t, .int .i64 R.l], .int .i64 E]) ∧ Below w'.heap.size w' w'')
  have heq := fun w' => run_eql_roll R R w'
  simp only [decide_true] at heq
  clear hRE hn hk
  go_enter Try.func8, Try.ntmps8
  go_wp2_with (first
    | (go_at_call 22; (with_reducible refine (HC.out _ ?_).mono ?_); (exact (by repeat (first | with_reducible exact Below.refl _ _ | with_reducible assumption | with_reducible refine below_dn ?_ _ | with_reducible refine Below.drew ?_ | with_reducible refine Below.alloc ?_ (by first | omega | (simp; done) | (simp; omega) | (simp [drew_size]; done) | (simp [drew_size]; omega)) _ | with_reducible refine Below.setCell ?_ (by first | omega | (simp; done) | (simp; omega) | (simp [drew_size]; done) | (simp [drew_size]; omega)) _))); rintro e w1 ⟨rfl, hb1⟩; obtain ⟨k1, k2, k3⟩ := keep1 hb1 (B := w.heap.size) (by simp); have hbw1 : Below w.heap.size w w1 := Below.trans' (by repeat (first | with_reducible exact Below.refl _ _ | with_reducible assumption | with_reducible refine below_dn ?_ _ | with_reducible refine Below.drew ?_ | with_reducible refine Below.alloc ?_ (by first | omega | (simp; done) | (simp; omega) | (simp [drew_size]; done) | (simp [drew_size]; omega)) _ | with_reducible refine Below.setCell ?_ (by first | omega | (simp; done) | (simp; omega) | (simp [drew_size]; done) | (simp [drew_size]; omega)) _)) hb1 (by first | omega | (simp; done) | (simp; omega) | (simp [drew_size]; done) | (simp [drew_size]; omega)); have hs1 : w.heap.size < w1.heap.size := (by have := hb1.size; simp at this; omega))
    | (go_at_call 23; (with_reducible refine (HG.out _ ?_).mono ?_); (exact (by repeat (first | with_reducible exact Below.refl _ _ | with_reducible assumption | with_reducible refine below_dn ?_ _ | with_reducible refine Below.drew ?_ | with_reducible refine Below.alloc ?_ (by first | omega | (simp; done) | (simp; omega) | (simp [drew_size]; done) | (simp [drew_size]; omega)) _ | with_reducible refine Below.setCell ?_ (by first | omega | (simp; done) | (simp; omega) | (simp [drew_size]; done) | (simp [drew_size]; omega)) _))); rintro e w2 ⟨rfl, hb2⟩; obtain ⟨m1, m2, m3⟩ := keep1 hb2 (B := w1.heap.size) (by simp); have hbw2 : Below w.heap.size w w2 := Below.trans' (by repeat (first | with_reducible exact Below.refl _ _ | with_reducible assumption | with_reducible refine below_dn ?_ _ | with_reducible refine Below.drew ?_ | with_reducible refine Below.alloc ?_ (by first | omega | (simp; done) | (simp; omega) | (simp [drew_size]; done) | (simp [drew_size]; omega)) _ | with_reducible refine Below.setCell ?_ (by first | omega | (simp; done) | (simp; omega) | (simp [drew_size]; done) | (simp [drew_size]; omega)) _)) hb2 (by first | omega | (simp; done) | (simp; omega) | (simp [drew_size]; done) | (simp [drew_size]; omega))))
  go_ret
  exact ⟨by first | rfl | simp, (by repeat (first | with_reducible exact Below.refl _ _ | with_reducible assumption | with_reducible refine below_dn ?_ _ | with_reducible refine Below.drew ?_ | with_reducible refine Below.alloc ?_ (by first | omega | (simp; done) | (simp; omega) | (simp [drew_size]; done) | (simp [drew_size]; omega)) _ | with_reducible refine Below.setCell ?_ (by first | omega | (simp; done) | (simp; omega) | (simp [drew_size]; done) | (simp [drew_size]; omega)) _))⟩
end Go.Proofs.Ytmpknhefkhjfpaa
