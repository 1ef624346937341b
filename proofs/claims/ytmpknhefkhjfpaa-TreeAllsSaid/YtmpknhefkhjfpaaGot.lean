/- The walk of the document's GotOf. -/
import Derived.Test.YtmpknhefkhjfpaaAllOf
import Derived.Test.YtmpknhefkhjfpaaLawCopies
namespace Go.Proofs.Ytmpknhefkhjfpaa
open Go.RowKit

/-- What is known of a tree at a key, and the error. -/
noncomputable def gotS (t : Tr) (key : Int) : Roll × Int := if treeFault t = 0 then (if 0 ≤ key ∧ key ≤ 1099511627775 then getR t key else (Roll.zero, 2)) else (Roll.zero, treeFault t)
theorem zero_cells {w : World} {b : Nat} {a0 a1 a2 a3 a4 a5 : Value} {T : TypeId} (h : w.heap[b]? = some (.cells #[a0, a1, a2, a3, a4, a5] T)) :
    w.cell? ⟨b, 0, none⟩ = some a0 ∧ w.cell? ⟨b, 1, none⟩ = some a1 ∧ w.cell? ⟨b, 2, none⟩ = some a2 ∧ w.cell? ⟨b, 3, none⟩ = some a3 ∧ w.cell? ⟨b, 4, none⟩ = some a4 ∧ w.cell? ⟨b, 5, none⟩ = some a5 ∧ ∀ o, w.frozen? ⟨b, o, none⟩ = false := by
  simp [World.cell?, World.frozen?, h]

set_option maxRecDepth 100000 in
set_option maxHeartbeats 1000000 in
theorem gotOf_any {v : Value} {t : Tr} {key : Int} {w : World} (h : TreeAt w v t) (hk1 : -9223372036854775808 ≤ key) (hk2 : key ≤ 9223372036854775807) :
    Calls Try.prog 23 #[v, .int .i64 key] w fun e w' => e = .returned (.tuple #[(gotS t key).1.v, .int .i64 (gotS t key).2]) ∧ Below w.heap.size w w' := by
  obtain ⟨nv, rfl, hn⟩ := h
  obtain ⟨ao, n, cap, rfl⟩ := nodes_slice hn
  obtain ⟨W0, hW0⟩ : ∃ W0, W0 = (w.alloc (.cells #[.slice ao n cap, .int .i64 t.root] 24)).alloc (.cells #[.int .i64 0, .int .i64 0, .int .i64 0, .int .i64 0, .int .i64 0, .int .i64 0] 43) := ⟨_, rfl⟩
  have hb0 : Below w.heap.size w W0 := by rw [hW0]; exact (by repeat (first | with_reducible exact Below.refl _ _ | with_reducible assumption | with_reducible refine below_dn ?_ _ | with_reducible refine Below.drew ?_ | with_reducible refine Below.alloc ?_ (by first | omega | (simp; done) | (simp; omega) | (simp [drew_size]; done) | (simp [drew_size]; omega)) _ | with_reducible refine Below.setCell ?_ (by first | omega | (simp; done) | (simp; omega) | (simp [drew_size]; done) | (simp [drew_size]; omega)) _))
  have hz0 : W0.heap.size = w.heap.size + 2 := by rw [hW0]; simp
  have k0 : W0.heap[w.heap.size]? = some (.cells #[.slice ao n cap, .int .i64 t.root] 24) := by
    rw [hW0, Below.heap_alloc _ _ _ (by simp)]; exact heap_new _ _ rfl
  have k1 : W0.heap[w.heap.size + 1]? = some (.cells #[.int .i64 0, .int .i64 0, .int .i64 0, .int .i64 0, .int .i64 0, .int .i64 0] 43) := by
    rw [hW0]; exact heap_new _ _ (by simp)
  have HB := Lib.hid fun w' (hb : Below W0.heap.size W0 w') => (Below.trans' hb0 hb hb0.size : Below w.heap.size w w')
  have HX := Lib.hid fun w' (hb : Below W0.heap.size W0 w') => (by
    have b0 : w'.heap[w.heap.size]? = _ := (hb.block _ (by omega)).trans k0
    simp [World.cell?, b0] :
    w'.cell? ⟨w.heap.size, 0, none⟩ = some (.slice ao n cap) ∧ w'.cell? ⟨w.heap.size, 1, none⟩ = some (.int .i64 t.root))
  have HZ := Lib.hid fun w' (hb : Below W0.heap.size W0 w') => (hb.block (w.heap.size + 1) (by omega)).trans k1
  have HF := Lib.hid (treeFault_any (t := t) (w := W0) (v := .agg #[.slice ao n cap, .int .i64 t.root]) ⟨_, rfl, hn.below hb0 (Nat.le_refl _)⟩)
  have HA := Lib.hid fun w' (hb : Below W0.heap.size W0 w') => allOf_any (lo := key) (hi := key + 1) (t := t) (w := w') (v := .agg #[.slice ao n cap, .int .i64 t.root]) ⟨_, rfl, hn.below (HB.out _ hb) (Nat.le_refl _)⟩
  have b00 := Below.refl W0.heap.size W0
  obtain ⟨q0, q1⟩ := HX.out _ b00
  have HG := Lib.hid (show gotS t key = _ from rfl)
  by_cases hf : treeFault t = 0
  · by_cases hr : 0 ≤ key ∧ key ≤ 1099511627775
    · have HGR := Lib.hid (show gotS t key = getR t key by unfold gotS; rw [if_pos hf, if_pos hr])
      have d1 : inR key 0 1099511627775 = true := inR_true.2 hr
      have hwk : IntKind.i64.wrap (key + 1) = key + 1 := IntWalk.i64_in _ (by omega)
      rw [hf] at HF HA
      have HFF := Lib.hid hf
      clear hf
      cases hr2 : allR t key (key + 1) with
      | none =>
        have HR := Lib.hid (show gotS t key = (Roll.zero, 1) by rw [HGR.out]; unfold getR; rw [hr2])
        rw [hr2] at HA
        clear hr2
        go_enter Try.func23, Try.ntmps23
        go_upto_region 1 with (fail)
        rw [← hW0]
        clear hW0 k0 k1
        go_wp2_with (first
          | (go_at_call 21; (with_reducible refine HF.out.mono ?_); rintro e w1 ⟨rfl, hb1⟩; obtain ⟨q0, q1⟩ := HX.out _ hb1)
          | (go_at_call 44; (with_reducible refine (in_any _ _ _ _).mono ?_); rintro e w' ⟨rfl, rfl⟩)
          | (go_at_call 25; (with_reducible refine (HA.out _ hb1).mono ?_); rintro e w2 ⟨hb2, -, he⟩; obtain rfl := he rfl; have hb12 := Below.trans' hb1 hb2 hb1.size; have hz := HZ.out _ hb12; obtain ⟨z0, z1, z2, z3, z4, z5, zf⟩ := zero_cells hz; have hbw := HB.out _ hb12))
        rw [HR.out]
        exact bodyPost_ret (v := .tuple #[.agg #[.int .i64 0, .int .i64 0, .int .i64 0, .int .i64 0, .int .i64 0, .int .i64 0], .int .i64 1]) (by simp [results, Try.results23, go_sem, *]) rfl ⟨rfl, (by repeat (first | with_reducible exact Below.refl _ _ | with_reducible assumption | with_reducible refine below_dn ?_ _ | with_reducible refine Below.drew ?_ | with_reducible refine Below.alloc ?_ (by first | omega | (simp; done) | (simp; omega) | (simp [drew_size]; done) | (simp [drew_size]; omega)) _ | with_reducible refine Below.setCell ?_ (by first | omega | (simp; done) | (simp; omega) | (simp [drew_size]; done) | (simp [drew_size]; omega)) _))⟩
      | some es =>
        have hlen : es.length ≤ 1000000 := by
          obtain ⟨_, hv⟩ := treeFault_ok HFF.out
          have h1 := (bagC_some (checked_filter (valid_checked hv)) hr2).2.2.2.1
          have h2 := List.length_filter_le (inRange key (key + 1)) t.all
          have h3 := valid_len hv
          omega
        rw [hr2] at HA
        cases es with
        | nil =>
          have HR := Lib.hid (show gotS t key = (Roll.zero, 0) by rw [HGR.out]; unfold getR; rw [hr2])
          clear hr2
          go_enter Try.func23, Try.ntmps23
          go_upto_region 1 with (fail)
          rw [← hW0]
          clear hW0 k0 k1
          go_wp2_with (first
            | (go_at_call 21; (with_reducible refine HF.out.mono ?_); rintro e w1 ⟨rfl, hb1⟩; obtain ⟨q0, q1⟩ := HX.out _ hb1)
            | (go_at_call 44; (with_reducible refine (in_any _ _ _ _).mono ?_); rintro e w' ⟨rfl, rfl⟩)
            | (go_at_call 25; (with_reducible refine (HA.out _ hb1).mono ?_); rintro e w2 ⟨hb2, -, he⟩; obtain ⟨v2, rfl, ho2⟩ := he rfl; obtain ⟨s2, c2, rfl⟩ := ho2.isSlice; have hb12 := Below.trans' hb1 hb2 hb1.size; have hz := HZ.out _ hb12; obtain ⟨z0, z1, z2, z3, z4, z5, zf⟩ := zero_cells hz; have hbw := HB.out _ hb12))
          rw [HR.out]
          exact bodyPost_ret (v := .tuple #[.agg #[.int .i64 0, .int .i64 0, .int .i64 0, .int .i64 0, .int .i64 0, .int .i64 0], .int .i64 0]) (by simp [results, Try.results23, go_sem, *]) rfl ⟨rfl, (by repeat (first | with_reducible exact Below.refl _ _ | with_reducible assumption | with_reducible refine below_dn ?_ _ | with_reducible refine Below.drew ?_ | with_reducible refine Below.alloc ?_ (by first | omega | (simp; done) | (simp; omega) | (simp [drew_size]; done) | (simp [drew_size]; omega)) _ | with_reducible refine Below.setCell ?_ (by first | omega | (simp; done) | (simp; omega) | (simp [drew_size]; done) | (simp [drew_size]; omega)) _))⟩
        | cons y ys =>
          have HR := Lib.hid (show gotS t key = (y.is, 0) by rw [HGR.out]; unfold getR; rw [hr2])
          clear hr2
          go_enter Try.func23, Try.ntmps23
          go_upto_region 1 with (fail)
          rw [← hW0]
          clear hW0 k0 k1
          have hl0 : 0 < (y :: ys).length := by simp
          go_wp2_with (first
            | (go_at_call 21; (with_reducible refine HF.out.mono ?_); rintro e w1 ⟨rfl, hb1⟩; obtain ⟨q0, q1⟩ := HX.out _ hb1)
            | (go_at_call 44; (with_reducible refine (in_any _ _ _ _).mono ?_); rintro e w' ⟨rfl, rfl⟩)
            | (go_at_call 25; (with_reducible refine (HA.out _ hb1).mono ?_); rintro e w2 ⟨hb2, -, he⟩; obtain ⟨v2, rfl, ho2⟩ := he rfl; obtain ⟨s2, c2, hv2, -, -, -, -, h5⟩ := ho2.at hlen; obtain ⟨eb, eoff, rfl, heb, hec⟩ := h5 hl0; subst hv2; obtain ⟨y0, y1, y2, y3, y4, y5, y6⟩ := ent_cells (Below.refl _ _) heb hec hl0; simp only [Nat.zero_mul, Nat.add_zero, List.getElem_cons_zero] at y0 y1 y2 y3 y4 y5 y6; have hb12 := Below.trans' hb1 hb2 hb1.size; have hz := HZ.out _ hb12; obtain ⟨z0, z1, z2, z3, z4, z5, zf⟩ := zero_cells hz; have hbw := HB.out _ hb12; have hxi := (fun w' => idx_ents (ab := eb) (aoff := eoff) (n := (y :: ys).length) (cap := c2) (i := 0) (j := 0) rfl hl0 w')))
          rw [HR.out]
          exact bodyPost_ret (v := .tuple #[.agg #[.int .i64 y.is.c, .int .i64 y.is.s, .int .i64 y.is.mi, .int .i64 y.is.ma, .int .i64 y.is.t, .int .i64 y.is.l], .int .i64 0]) (by simp [results, Try.results23, go_sem, *]) rfl ⟨rfl, (by repeat (first | with_reducible exact Below.refl _ _ | with_reducible assumption | with_reducible refine below_dn ?_ _ | with_reducible refine Below.drew ?_ | with_reducible refine Below.alloc ?_ (by first | omega | (simp; done) | (simp; omega) | (simp [drew_size]; done) | (simp [drew_size]; omega)) _ | with_reducible refine Below.setCell ?_ (by first | omega | (simp; done) | (simp; omega) | (simp [drew_size]; done) | (simp [drew_size]; omega)) _))⟩
    · have HR := Lib.hid (show gotS t key = (Roll.zero, 2) by unfold gotS; rw [if_pos hf, if_neg hr])
      have d1 : inR key 0 1099511627775 = false := inR_false.2 (by omega)
      rw [hf] at HF
      clear hf hr
      go_enter Try.func23, Try.ntmps23
      go_upto_region 1 with (fail)
      rw [← hW0]
      clear hW0 k0 k1
      go_wp2_with (first
        | (go_at_call 21; (with_reducible refine HF.out.mono ?_); rintro e w1 ⟨rfl, hb1⟩; obtain ⟨q0, q1⟩ := HX.out _ hb1; have hz := HZ.out _ hb1; obtain ⟨z0, z1, z2, z3, z4, z5, zf⟩ := zero_cells hz; have hbw := HB.out _ hb1)
        | (go_at_call 44; (with_reducible refine (in_any _ _ _ _).mono ?_); rintro e w' ⟨rfl, rfl⟩))
      rw [HR.out]
      exact bodyPost_ret (v := .tuple #[.agg #[.int .i64 0, .int .i64 0, .int .i64 0, .int .i64 0, .int .i64 0, .int .i64 0], .int .i64 2]) (by simp [results, Try.results23, go_sem, *]) rfl ⟨rfl, (by repeat (first | with_reducible exact Below.refl _ _ | with_reducible assumption | with_reducible refine below_dn ?_ _ | with_reducible refine Below.drew ?_ | with_reducible refine Below.alloc ?_ (by first | omega | (simp; done) | (simp; omega) | (simp [drew_size]; done) | (simp [drew_size]; omega)) _ | with_reducible refine Below.setCell ?_ (by first | omega | (simp; done) | (simp; omega) | (simp [drew_size]; done) | (simp [drew_size]; omega)) _))⟩
  · have HR := Lib.hid (show gotS t key = (Roll.zero, treeFault t) by unfold gotS; rw [if_neg hf])
    have d1 : (treeFault t == 0) = false := by simp [hf]
    have d2 : (treeFault t != 0) = true := by simp [hf]
    obtain ⟨F, hF⟩ : ∃ F, treeFault t = F := ⟨_, rfl⟩
    rw [hF] at HF HR d1 d2
    clear hf hF HG HA
    go_enter Try.func23, Try.ntmps23
    go_upto_region 1 with (fail)
    rw [← hW0]
    clear hW0 k0 k1
    go_wp2_with ((go_at_call 21; (with_reducible refine HF.out.mono ?_); rintro e w1 ⟨rfl, hb1⟩; obtain ⟨q0, q1⟩ := HX.out _ hb1; have hz := HZ.out _ hb1; obtain ⟨z0, z1, z2, z3, z4, z5, zf⟩ := zero_cells hz; have hbw := HB.out _ hb1))
    rw [HR.out]
    exact bodyPost_ret (v := .tuple #[.agg #[.int .i64 0, .int .i64 0, .int .i64 0, .int .i64 0, .int .i64 0, .int .i64 0], .int .i64 F]) (by simp [results, Try.results23, go_sem, *]) rfl ⟨rfl, (by repeat (first | with_reducible exact Below.refl _ _ | with_reducible assumption | with_reducible refine below_dn ?_ _ | with_reducible refine Below.drew ?_ | with_reducible refine Below.alloc ?_ (by first | omega | (simp; done) | (simp; omega) | (simp [drew_size]; done) | (simp [drew_size]; omega)) _ | with_reducible refine Below.setCell ?_ (by first | omega | (simp; done) | (simp; omega) | (simp [drew_size]; done) | (simp [drew_size]; omega)) _))⟩
end Go.Proofs.Ytmpknhefkhjfpaa
