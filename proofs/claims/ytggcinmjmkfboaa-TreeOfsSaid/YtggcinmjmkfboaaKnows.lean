/- The walks of 'knows' and of tree.New; the law TreeNew. -/
import Derived.Test.YtggcinmjmkfboaaAllOf
import Derived.Test.YtggcinmjmkfboaaLawCopies
namespace Go.Proofs.Ytggcinmjmkfboaa
open Go.RowKit

open Classical in
/-- Does a tree know just these entries? -/
noncomputable def knowsB (t : Tr) (xs : List Ent) : Bool := decide (treeFault t = 0 ∧ allR t 0 1099511627776 = some xs)

set_option maxRecDepth 100000 in
set_option maxHeartbeats 1000000 in
theorem knows_any {v lv : Value} {t : Tr} {xs : List Ent} {w : World} (h : TreeAt w v t) (hl : EntsAt w lv xs) :
    Calls Try.prog 7 #[v, lv] w fun e w' => e = .returned (.bool (knowsB t xs)) ∧ Below w.heap.size w w' := by
  obtain ⟨nv, rfl, hn⟩ := h
  obtain ⟨ao, n, cap, rfl⟩ := nodes_slice hn
  obtain ⟨la, lc, rfl⟩ := hl.isSlice
  have HA := Lib.hid fun w' (hb : Below w.heap.size w w') => allOf_any (lo := 0) (hi := 1099511627776) (t := t) (w := w') (v := .agg #[.slice ao n cap, .int .i64 t.root]) ⟨_, rfl, hn.below hb (Nat.le_refl _)⟩
  have HL := Lib.hid hl
  have HK := Lib.hid (show knowsB t xs = _ from rfl)
  go_enter Try.func7, Try.ntmps7
  go_upto_region 1 with (fail)
  by_cases hf : treeFault t = 0
  · cases hr : allR t 0 1099511627776 with
    | none =>
      have HR := Lib.hid (show knowsB t xs = false by simp [knowsB, hr])
      have HA' := Lib.hid (HA.out (w.alloc (.cells #[.slice ao n cap, .int .i64 t.root] 25)) (by repeat (first | with_reducible exact Below.refl _ _ | with_reducible assumption | with_reducible refine below_dn ?_ _ | with_reducible refine Below.drew ?_ | with_reducible refine Below.alloc ?_ (by first | omega | (simp; done) | (simp; omega) | (simp [drew_size]; done) | (simp [drew_size]; omega)) _ | with_reducible refine Below.setCell ?_ (by first | omega | (simp; done) | (simp; omega) | (simp [drew_size]; done) | (simp [drew_size]; omega)) _)))
      rw [hr, hf] at HA'
      clear hr hf
      go_wp2_with ((go_at_call 18; (with_reducible refine HA'.out.mono ?_); rintro e w1 ⟨hb1, -, he⟩; obtain rfl := he rfl))
      go_ret
      exact ⟨ret_bool HR.out.symm, Below.trans' (by repeat (first | with_reducible exact Below.refl _ _ | with_reducible assumption | with_reducible refine below_dn ?_ _ | with_reducible refine Below.drew ?_ | with_reducible refine Below.alloc ?_ (by first | omega | (simp; done) | (simp; omega) | (simp [drew_size]; done) | (simp [drew_size]; omega)) _ | with_reducible refine Below.setCell ?_ (by first | omega | (simp; done) | (simp; omega) | (simp [drew_size]; done) | (simp [drew_size]; omega)) _)) hb1 (by first | omega | (simp; done) | (simp; omega) | (simp [drew_size]; done) | (simp [drew_size]; omega))⟩
    | some es =>
      have HA' := Lib.hid (HA.out (w.alloc (.cells #[.slice ao n cap, .int .i64 t.root] 25)) (by repeat (first | with_reducible exact Below.refl _ _ | with_reducible assumption | with_reducible refine below_dn ?_ _ | with_reducible refine Below.drew ?_ | with_reducible refine Below.alloc ?_ (by first | omega | (simp; done) | (simp; omega) | (simp [drew_size]; done) | (simp [drew_size]; omega)) _ | with_reducible refine Below.setCell ?_ (by first | omega | (simp; done) | (simp; omega) | (simp [drew_size]; done) | (simp [drew_size]; omega)) _)))
      rw [hr, hf] at HA'
      have HR := Lib.hid (show knowsB t xs = decide (es = xs) by simp [knowsB, hr, hf])
      have hlen : es.length ≤ 1000000 := by
        obtain ⟨_, hv⟩ := treeFault_ok hf
        have h1 := (bagC_some (checked_filter (valid_checked hv)) hr).2.2.2.1
        have h2 := List.length_filter_le (inRange 0 1099511627776) t.all
        have h3 := valid_len hv
        omega
      clear hr hf
      go_wp2_with (first
        | (go_at_call 18; (with_reducible refine HA'.out.mono ?_); rintro e w1 ⟨hb1, -, he⟩; obtain ⟨v1, rfl, ho1⟩ := he rfl; obtain ⟨s1, c1, rfl⟩ := ho1.isSlice; have hbw : Below w.heap.size w w1 := Below.trans' (by repeat (first | with_reducible exact Below.refl _ _ | with_reducible assumption | with_reducible refine below_dn ?_ _ | with_reducible refine Below.drew ?_ | with_reducible refine Below.alloc ?_ (by first | omega | (simp; done) | (simp; omega) | (simp [drew_size]; done) | (simp [drew_size]; omega)) _ | with_reducible refine Below.setCell ?_ (by first | omega | (simp; done) | (simp; omega) | (simp [drew_size]; done) | (simp [drew_size]; omega)) _)) hb1 (by first | omega | (simp; done) | (simp; omega) | (simp [drew_size]; done) | (simp [drew_size]; omega)); have HSE := Lib.hid (lawSameEntries_any (ho1.at hlen) (HL.out.below hbw (Nat.le_refl _))))
        | (go_at_call 19; (with_reducible refine HSE.out.mono ?_); rintro e w2 ⟨rfl, hb2⟩))
      go_ret
      exact ⟨ret_bool HR.out.symm, Below.trans' hbw hb2 hbw.size⟩
  · have HR := Lib.hid (show knowsB t xs = false by simp [knowsB, hf])
    have hf' : (treeFault t == 0) = false := by simp [hf]
    have HA' := Lib.hid (HA.out (w.alloc (.cells #[.slice ao n cap, .int .i64 t.root] 25)) (by repeat (first | with_reducible exact Below.refl _ _ | with_reducible assumption | with_reducible refine below_dn ?_ _ | with_reducible refine Below.drew ?_ | with_reducible refine Below.alloc ?_ (by first | omega | (simp; done) | (simp; omega) | (simp [drew_size]; done) | (simp [drew_size]; omega)) _ | with_reducible refine Below.setCell ?_ (by first | omega | (simp; done) | (simp; omega) | (simp [drew_size]; done) | (simp [drew_size]; omega)) _)))
    have HF := Lib.hid hf
    clear hf
    go_wp2_with ((go_at_call 18; (with_reducible refine HA'.out.mono ?_); rintro e w1 ⟨hb1, he, -⟩; obtain rfl := he HF.out))
    go_ret
    exact ⟨ret_bool HR.out.symm, Below.trans' (by repeat (first | with_reducible exact Below.refl _ _ | with_reducible assumption | with_reducible refine below_dn ?_ _ | with_reducible refine Below.drew ?_ | with_reducible refine Below.alloc ?_ (by first | omega | (simp; done) | (simp; omega) | (simp [drew_size]; done) | (simp [drew_size]; omega)) _ | with_reducible refine Below.setCell ?_ (by first | omega | (simp; done) | (simp; omega) | (simp [drew_size]; done) | (simp [drew_size]; omega)) _)) hb1 (by first | omega | (simp; done) | (simp; omega) | (simp [drew_size]; done) | (simp [drew_size]; omega))⟩
end Go.Proofs.Ytggcinmjmkfboaa
