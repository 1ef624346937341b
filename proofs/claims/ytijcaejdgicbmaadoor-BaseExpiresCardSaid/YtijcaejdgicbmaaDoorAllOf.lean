/- The walk of the document's AllOf. -/
import Derived.Test.YtijcaejdgicbmaaDoorPA
import Derived.Test.YtijcaejdgicbmaaDoorWith
import Derived.Test.YtijcaejdgicbmaaDoorHT
import Derived.StillTailTactics
namespace Go.Proofs.YtijcaejdgicbmaaDoor
open Go.RowKit

/-- What a call that gives the entries of a tree leaves: B: from where on the new slice lies. -/
def AllPost (B : Nat) (w : World) (f : Int) (r : Option (List Ent)) (e : Ending) (w' : World) : Prop :=
  Below B w w' ∧ (f ≠ 0 → e = .returned (.tuple #[.slice none 0 0, .int .i64 f])) ∧ (f = 0 → match r with | none => e = .returned (.tuple #[.slice none 0 0, .int .i64 1]) | some l => ∃ v', e = .returned (.tuple #[v', .int .i64 0]) ∧ OwnEnts B w' v' l)

set_option maxRecDepth 100000 in
set_option maxHeartbeats 1000000 in
theorem allOf_any {v : Value} {t : Tr} {lo hi : Int} {w : World} (h : TreeAt w v t) :
    Calls Tryd.prog 38 #[v, .int .i64 lo, .int .i64 hi] w (AllPost w.heap.size w (treeFault t) (allR t lo hi)) := by
  obtain ⟨nv, rfl, hn⟩ := h
  obtain ⟨⟨ao, cap, rfl⟩, hlen⟩ := hn.len
  obtain ⟨W0, hW0⟩ : ∃ W0, W0 = w.alloc (.cells #[.slice ao t.nodes.length cap, .int .i64 t.root] 25) := ⟨_, rfl⟩
  have hb0 : Below w.heap.size w W0 := by rw [hW0]; exact (Below.refl _ _).alloc (Nat.le_refl _) _
  have hz0 : W0.heap.size = w.heap.size + 1 := by rw [hW0]; simp
  have k0 : W0.heap[w.heap.size]? = some (.cells #[.slice ao t.nodes.length cap, .int .i64 t.root] 25) := by
    rw [hW0]; exact heap_new _ _ rfl
  have HX := Lib.hid fun w' (hb : Below (w.heap.size + 1) W0 w') => (by
    have b0 : w'.heap[w.heap.size]? = _ := (hb.block _ (by omega)).trans k0
    simp [World.cell?, b0] :
    w'.cell? ⟨w.heap.size, 0, none⟩ = some (.slice ao t.nodes.length cap) ∧ w'.cell? ⟨w.heap.size, 1, none⟩ = some (.int .i64 t.root))
  have HB := Lib.hid fun w' (hb : Below (w.heap.size + 1) W0 w') => (Below.trans' hb0 (hb.mono (by omega)) (by omega) : Below w.heap.size w w')
  have HG := Lib.hid hn
  have HF := Lib.hid (treeFault_any (t := t) (w := W0) (v := .agg #[.slice ao t.nodes.length cap, .int .i64 t.root]) ⟨_, rfl, hn.below hb0 (Nat.le_refl _)⟩)
  have k1 : W0.cell? ⟨w.heap.size, 0, none⟩ = some (.slice ao t.nodes.length cap) ∧ W0.cell? ⟨w.heap.size, 1, none⟩ = some (.int .i64 t.root) := by simp [World.cell?, k0]
  obtain ⟨k1, k2⟩ := k1
  go_enter Tryd.func38, Tryd.ntmps38
  go_upto_region 1 with (fail)
  rw [← hW0]
  clear hW0 k0
  by_cases hf : treeFault t = 0
  · rw [hf] at HF
    go_wp2_with ((go_at_call 73; (with_reducible refine HF.out.mono ?_); rintro e w1 ⟨rfl, hb1⟩))
    have hB1 : Below (w.heap.size + 1) W0 w1 := hb1.mono (by omega)
    go_loopg [8, 9, 10] t.nodes.length (fun g er out i wr => ∃ (k : Nat) (es : List Ent), k ≤ t.nodes.length ∧ g = t.nodes.length - k ∧ i = .int .i64 k ∧ er = .int .i64 0 ∧ OwnEnts (w.heap.size + 1) wr out es ∧ Hid (∀ x, AllRel t lo hi k x 0 es) ∧ Below (w.heap.size + 1) W0 wr)
    case atStart => exact ⟨0, [], Nat.zero_le _, rfl, rfl, rfl, OwnEnts.nil _ _, Lib.hid (fun x => allRel_start t lo hi x), hB1⟩
    case round =>
      obtain ⟨i, es, hk, rfl, rfl, rfl, hown, HREL, hbW⟩ := hrel
      obtain ⟨so, sc, rfl⟩ := hown.isSlice
      obtain ⟨q0, q1⟩ := HX.out _ hbW
      by_cases hlt : i < t.nodes.length
      · obtain ⟨x, hx⟩ : ∃ x, t.nodes[i]? = some x := ⟨t.nodes[i], by simp [hlt]⟩
        obtain ⟨nb, noff, cap', r, e0, hnb, ⟨-, hE, -, -, hBf⟩, -, r1, -, -, r4⟩ := HG.out.get hx
        injection e0 with e0 _ e2
        subst e0 e2
        obtain ⟨ae, ne, hae⟩ := hE.isSlice
        obtain ⟨ab, nbb, hab⟩ := hBf.isSlice
        rw [hae] at r1 hE
        rw [hab] at r4 hBf
        have hle := hE.len (by decide)
        have hlb := hBf.len (by decide)
        have hall : x.all.length = x.ents.length + x.buf.length := by simp [Nd.all]
        have HC := Lib.hid fun w' (hb : Below (w.heap.size + 1) W0 w') => And.intro (((HB.out w' hb).cell (p := ⟨nb, noff + i * 5 + 1, none⟩) hnb).trans r1) (((HB.out w' hb).cell (p := ⟨nb, noff + i * 5 + 4, none⟩) hnb).trans r4)
        have HEN := Lib.hid hE
        have HBF := Lib.hid hBf
        have HXI := Lib.hid hx
        have hwa : IntKind.i64.wrap ((x.ents.length : Int) + (x.buf.length : Int)) = (x.ents.length : Int) + (x.buf.length : Int) := IntWalk.i64_in _ (by omega)
        have hixn := fun w' => idx_node (ab := nb) (aoff := noff) (n := t.nodes.length) (cap := cap) (show (i : Int) = ((i : Nat) : Int) by rfl) hlt w'
        clear hE hBf r1 r4 hae hab hx
        go_wp2_with fail
        go_loopg [8, 9, 11] x.all.length (fun g er out jj wr2 => ∃ (k : Nat) (es : List Ent), k ≤ x.all.length ∧ g = x.all.length - k ∧ jj = .int .i64 k ∧ er = .int .i64 0 ∧ OwnEnts (w.heap.size + 1) wr2 out es ∧ Hid (AllRel t lo hi i x k es) ∧ Below (w.heap.size + 1) W0 wr2)
        case atStart => exact ⟨0, es, Nat.zero_le _, rfl, rfl, rfl, hown, Lib.hid (HREL.out x), hbW⟩
        case round =>
          clear hown hbW q0 q1
          obtain ⟨k, es, hk2, rfl, rfl, rfl, hown, HRELI, hbW⟩ := hrel
          obtain ⟨so, sc, rfl⟩ := hown.isSlice
          obtain ⟨q0, q1⟩ := HX.out _ hbW
          obtain ⟨c1, c4⟩ := HC.out _ hbW
          have hsz : w.heap.size + 1 ≤ wr.heap.size := by have := hbW.size; omega
          have n0 : w.heap.size < wr.heap.size := by omega
          have n1 : w.heap.size ≠ wr.heap.size := by omega
          have n2 : wr.heap.size ≠ w.heap.size := by omega
          have n3 : nb < wr.heap.size := by omega
          have n4 : nb ≠ wr.heap.size := by omega
          have n5 : wr.heap.size ≠ nb := by omega
          by_cases hlt2 : k < x.all.length
          · have hlt3 : (k : Int) < (x.ents.length : Int) + (x.buf.length : Int) := by omega
            obtain ⟨y, hy⟩ : ∃ y, x.all[k] = y := ⟨_, rfl⟩
            have HY := Lib.hid hy
            clear hy
            go_wp2_with fail
            go_cut [41] (fun c wx => c = .bool true ∧ OwnEnts (w.heap.size + 1) wx (.slice so es.length sc) es ∧ Below (w.heap.size + 1) W0 wx)
            case first =>
              go_quiet (fail)
              go_wp2
              go_meet
              exact ⟨rfl, (by repeat (first | assumption | with_reducible refine OwnEnts.alloc ?_ _ | with_reducible refine OwnEnts.drewN ?_ _ | with_reducible refine OwnEnts.drew ?_)), (by repeat (first | with_reducible exact Below.refl _ _ | with_reducible assumption | with_reducible refine below_dn ?_ _ | with_reducible refine Below.drew ?_ | with_reducible refine Below.alloc ?_ (by first | omega | (simp; done) | (simp; omega) | (simp [drew_size]; done) | (simp [drew_size]; omega)) _ | with_reducible refine Below.setCell ?_ (by first | omega | (simp; done) | (simp; omega) | (simp [drew_size]; done) | (simp [drew_size]; omega)) _))⟩
            case rest =>
              clear hown hbW q0 q1 c1 c4 hsz n0 n1 n2 n3 n4 n5
              obtain ⟨rfl, hown, hbW⟩ := hcut
              obtain ⟨W8, hW8⟩ : ∃ W8, W8 = wc := ⟨_, rfl⟩
              subst hW8
              obtain ⟨q0, q1⟩ := HX.out _ hbW
              obtain ⟨c1, c4⟩ := HC.out _ hbW
              have hsz : w.heap.size + 1 ≤ W8.heap.size := by have := hbW.size; omega
              have n0 : w.heap.size < W8.heap.size := by omega
              have n3 : nb < W8.heap.size := by omega
              go_upto_if 53 with (fail)
              go_cut [] (fun wx => wx.heap[W8.heap.size]? = some (.cells #[.int .i64 y.key, .int .i64 y.is.c, .int .i64 y.is.s, .int .i64 y.is.mi, .int .i64 y.is.ma, .int .i64 y.is.t, .int .i64 y.is.l] 70) ∧ OwnEnts (w.heap.size + 1) wx (.slice so es.length sc) es ∧ Below (w.heap.size + 1) W0 wx)
              case first =>
                by_cases hke : k < x.ents.length
                · have hye : x.ents[k] = y := by rw [← HY.out]; simp [Nd.all, List.getElem_append_left, hke]
                  obtain ⟨ao', ca', hv, -, -, -, -, h5⟩ := HEN.out
                  injection hv with g1 _ g3
                  subst g1 g3
                  obtain ⟨eb, eoff, rfl, heb, hec⟩ := h5 (by omega)
                  obtain ⟨y0, y1, y2, y3, y4, y5, y6⟩ := ent_cells (HB.out _ hbW) heb hec hke
                  rw [hye] at y0 y1 y2 y3 y4 y5 y6
                  have n6 : eb < W8.heap.size := by omega
                  clear hec h5 hye HEN HBF
                  go_wp2
                  go_meet
                  refine ⟨?_, ?_, ?_⟩
                  · with_reducible exact heap_new _ _ rfl
                  · exact (by repeat (first | assumption | with_reducible refine OwnEnts.alloc ?_ _ | with_reducible refine OwnEnts.drewN ?_ _ | with_reducible refine OwnEnts.drew ?_))
                  · exact (by repeat (first | with_reducible exact Below.refl _ _ | with_reducible assumption | with_reducible refine below_dn ?_ _ | with_reducible refine Below.drew ?_ | with_reducible refine Below.alloc ?_ (by first | omega | (simp; done) | (simp; omega) | (simp [drew_size]; done) | (simp [drew_size]; omega)) _ | with_reducible refine Below.setCell ?_ (by first | omega | (simp; done) | (simp; omega) | (simp [drew_size]; done) | (simp [drew_size]; omega)) _))
                · obtain ⟨m, hm⟩ : ∃ m, m = k - x.ents.length := ⟨_, rfl⟩
                  have hmb : m < x.buf.length := by omega
                  have hye : x.buf[m] = y := by
                    rw [← HY.out]; simp only [Nd.all]; rw [List.getElem_append_right (by omega)]; congr 1
                  obtain ⟨ao', ca', hv, -, -, -, -, h5⟩ := HBF.out
                  injection hv with g1 _ g3
                  subst g1 g3
                  obtain ⟨eb, eoff, rfl, heb, hec⟩ := h5 (by omega)
                  have hwk : IntKind.i64.wrap ((k : Int) - (x.ents.length : Int)) = (k : Int) - (x.ents.length : Int) := IntWalk.i64_in _ (by omega)
                  have hkm : (k : Int) - (x.ents.length : Int) = ((m : Nat) : Int) := by rw [hm, Int.ofNat_sub (by omega)]
                  have hixe := fun w' => idx_ents (ab := eb) (aoff := eoff) (n := x.buf.length) (cap := nbb) hkm hmb w'
                  clear hkm hm
                  go_wp2_with fail
                  obtain ⟨W9, hW9⟩ : ∃ W9, W9 = W8.alloc (.cells #[.int .i64 0, .int .i64 0, .int .i64 0, .int .i64 0, .int .i64 0, .int .i64 0, .int .i64 0] 70) := ⟨_, rfl⟩
                  have hb9 : Below (w.heap.size + 1) W0 W9 := by rw [hW9]; exact (by repeat (first | with_reducible exact Below.refl _ _ | with_reducible assumption | with_reducible refine below_dn ?_ _ | with_reducible refine Below.drew ?_ | with_reducible refine Below.alloc ?_ (by first | omega | (simp; done) | (simp; omega) | (simp [drew_size]; done) | (simp [drew_size]; omega)) _ | with_reducible refine Below.setCell ?_ (by first | omega | (simp; done) | (simp; omega) | (simp [drew_size]; done) | (simp [drew_size]; omega)) _))
                  have hb89 : Below W8.heap.size W8 W9 := by rw [hW9]; exact (by repeat (first | with_reducible exact Below.refl _ _ | with_reducible assumption | with_reducible refine below_dn ?_ _ | with_reducible refine Below.drew ?_ | with_reducible refine Below.alloc ?_ (by first | omega | (simp; done) | (simp; omega) | (simp [drew_size]; done) | (simp [drew_size]; omega)) _ | with_reducible refine Below.setCell ?_ (by first | omega | (simp; done) | (simp; omega) | (simp [drew_size]; done) | (simp [drew_size]; omega)) _))
                  have k9 : W9.heap[W8.heap.size]? = some (.cells #[.int .i64 0, .int .i64 0, .int .i64 0, .int .i64 0, .int .i64 0, .int .i64 0, .int .i64 0] 70) := by rw [hW9]; exact heap_new _ _ rfl
                  have f9 : ∀ o, W9.frozen? ⟨W8.heap.size, o, none⟩ = false := fun o => by simp [World.frozen?, k9]
                  obtain ⟨z0, z1, z2, z3, z4, z5, z6⟩ : W9.cell? ⟨W8.heap.size, 0, none⟩ = some (.int .i64 0) ∧ W9.cell? ⟨W8.heap.size, 1, none⟩ = some (.int .i64 0) ∧ W9.cell? ⟨W8.heap.size, 2, none⟩ = some (.int .i64 0) ∧ W9.cell? ⟨W8.heap.size, 3, none⟩ = some (.int .i64 0) ∧ W9.cell? ⟨W8.heap.size, 4, none⟩ = some (.int .i64 0) ∧ W9.cell? ⟨W8.heap.size, 5, none⟩ = some (.int .i64 0) ∧ W9.cell? ⟨W8.heap.size, 6, none⟩ = some (.int .i64 0) := by simp [World.cell?, k9]
                  rw [← hW9]
                  obtain ⟨y0, y1, y2, y3, y4, y5, y6⟩ := ent_cells (HB.out _ hb9) heb hec hmb
                  rw [hye] at y0 y1 y2 y3 y4 y5 y6
                  clear q0 q1 c1 c4 hW9 hec h5 hye HEN HBF
                  obtain ⟨q0, q1⟩ := HX.out _ hb9
                  obtain ⟨c1, c4⟩ := HC.out _ hb9
                  refine wp_region_still_tail 17 (by kernel_rfl) (by kernel_rfl) ?_
                  (simp only [List.take_succ_cons, List.take_zero, List.drop_succ_cons, List.drop_zero]; (repeat ((with_reducible refine wpStill_step (fun K hK => ?_)); go_simp; (with_reducible refine hK _ ?_); clear hK K)); (with_reducible refine wpStill_nil ?_))
                  change wpList _ _ _ _ _ W9.drew
                  go_wp2
                  go_meet
                  refine ⟨?_, ?_, ?_⟩
                  · first | (with_reducible exact heap_set7 k9) | (with_reducible refine drew_block ?_; with_reducible exact heap_set7 k9)
                  · exact hown.below (show Below W8.heap.size W8 _ from (by repeat (first | with_reducible exact Below.refl _ _ | with_reducible assumption | with_reducible refine below_dn ?_ _ | with_reducible refine Below.drew ?_ | with_reducible refine Below.alloc ?_ (by first | omega | (simp; done) | (simp; omega) | (simp [drew_size]; done) | (simp [drew_size]; omega)) _ | with_reducible refine Below.setCell ?_ (by first | omega | (simp; done) | (simp; omega) | (simp [drew_size]; done) | (simp [drew_size]; omega)) _))) (Nat.le_refl _)
                  · exact (by repeat (first | with_reducible exact Below.refl _ _ | with_reducible assumption | with_reducible refine below_dn ?_ _ | with_reducible refine Below.drew ?_ | with_reducible refine Below.alloc ?_ (by first | omega | (simp; done) | (simp; omega) | (simp [drew_size]; done) | (simp [drew_size]; omega)) _ | with_reducible refine Below.setCell ?_ (by first | omega | (simp; done) | (simp; omega) | (simp [drew_size]; done) | (simp [drew_size]; omega)) _))
              case rest =>
                clear hown hbW q0 q1 c1 c4
                obtain ⟨k8, hown, hbW⟩ := hcut
                have hsz9 : w.heap.size + 1 ≤ wc.heap.size := by have := hbW.size; omega
                obtain ⟨p0, p1, p2, p3, p4, p5, p6⟩ : wc.cell? ⟨W8.heap.size, 0, none⟩ = some (.int .i64 y.key) ∧ wc.cell? ⟨W8.heap.size, 1, none⟩ = some (.int .i64 y.is.c) ∧ wc.cell? ⟨W8.heap.size, 2, none⟩ = some (.int .i64 y.is.s) ∧ wc.cell? ⟨W8.heap.size, 3, none⟩ = some (.int .i64 y.is.mi) ∧ wc.cell? ⟨W8.heap.size, 4, none⟩ = some (.int .i64 y.is.ma) ∧ wc.cell? ⟨W8.heap.size, 5, none⟩ = some (.int .i64 y.is.t) ∧ wc.cell? ⟨W8.heap.size, 6, none⟩ = some (.int .i64 y.is.l) := by simp [World.cell?, k8]
                clear k8
                by_cases hin : lo ≤ y.key ∧ y.key < hi
                · obtain ⟨i1, i2⟩ := hin
                  have HIN := Lib.hid (show inRange lo hi (x.all[k]'hlt2) = true by rw [HY.out]; simp [inRange, i1, i2])
                  obtain ⟨hce, hle'⟩ := allRel_some hf HXI.out HRELI.out
                  have HWE := Lib.hid (withEntry_any (v := .slice so es.length sc) (xs := es) (x := y) (w := wc) (hown.at (by omega)) (fun e he => (hce e he).2) (by rw [← HY.out]; exact all_checked hf HXI.out hlt2) (by omega))
                  clear hce
                  cases hI : insC es y with
                  | none =>
                    have HR := Lib.hid (allRel_stop HXI.out hlt2 HRELI.out HIN.out (by rw [HY.out]; exact hI))
                    rw [hI] at HWE
                    clear hI
                    go_wp2_with ((go_at_call 61; (with_reducible refine HWE.out.mono ?_); rintro e w6 ⟨hb6, rfl⟩))
                    go_ret2
                    rw [HR.out]
                    exact ⟨Below.trans' (HB.out _ hbW) hb6 (by omega), fun h => by first | exact absurd hf h | exact (h rfl).elim, fun _ => rfl⟩
                  | some es' =>
                    have HRELN := Lib.hid (allRel_take hlt2 HRELI.out HIN.out (by rw [HY.out]; exact hI))
                    rw [hI] at HWE
                    clear hI
                    go_wp2_with ((go_at_call 61; (with_reducible refine HWE.out.mono ?_); rintro e w6 ⟨hb6, v6, rfl, ho6⟩; obtain ⟨s6, c6, rfl⟩ := ho6.isSlice))
                    go_roundg (x.all.length - (k + 1))
                    case measure => omega
                    case rel => exact ⟨k + 1, es', by omega, rfl, by go_num, rfl, ho6.mono (by omega), HRELN, Below.trans' hbW hb6 hsz9⟩
                · have HIN := Lib.hid (show inRange lo hi (x.all[k]'hlt2) = false by rw [HY.out]; simp only [inRange, Bool.and_eq_false_iff, decide_eq_false_iff_not]; omega)
                  have HRELN := Lib.hid (allRel_skip hlt2 HRELI.out HIN.out)
                  by_cases i1 : lo ≤ y.key
                  · have i2 : hi ≤ y.key := by omega
                    clear hin
                    go_wp2
                    go_roundg (x.all.length - (k + 1))
                    case measure => omega
                    case rel => exact ⟨k + 1, es, by omega, rfl, by go_num, rfl, hown, HRELN, hbW⟩
                  · have i2 : y.key < lo := by omega
                    clear hin
                    go_wp2
                    go_roundg (x.all.length - (k + 1))
                    case measure => omega
                    case rel => exact ⟨k + 1, es, by omega, rfl, by go_num, rfl, hown, HRELN, hbW⟩
          · have hge : ¬ (k : Int) < (x.ents.length : Int) + (x.buf.length : Int) := by omega
            have HNX := Lib.hid fun z => allRel_next (y := z) HXI.out (by omega) HRELI.out
            go_wp2_with fail
            go_quiet (fail)
            go_wp2
            go_roundg (t.nodes.length - (i + 1))
            case measure => omega
            case rel => exact ⟨i + 1, es, by omega, rfl, by go_num, rfl, (by repeat (first | assumption | with_reducible refine OwnEnts.alloc ?_ _ | with_reducible refine OwnEnts.drewN ?_ _ | with_reducible refine OwnEnts.drew ?_)), Lib.hid fun z => HNX.out z, (by repeat (first | with_reducible exact Below.refl _ _ | with_reducible assumption | with_reducible refine below_dn ?_ _ | with_reducible refine Below.drew ?_ | with_reducible refine Below.alloc ?_ (by first | omega | (simp; done) | (simp; omega) | (simp [drew_size]; done) | (simp [drew_size]; omega)) _ | with_reducible refine Below.setCell ?_ (by first | omega | (simp; done) | (simp; omega) | (simp [drew_size]; done) | (simp [drew_size]; omega)) _))⟩
      · have HR := Lib.hid (allRel_end (x := default) (by omega) (HREL.out default))
        go_wp2
        go_ret2
        rw [HR.out]
        exact ⟨HB.out _ hbW, fun h => by first | exact absurd hf h | exact (h rfl).elim, fun _ => ⟨_, rfl, hown.mono (by omega)⟩⟩
  · have HR := Lib.hid hf
    have hf' : (treeFault t != 0) = true := by simp [hf]
    go_wp2_with ((go_at_call 73; (with_reducible refine HF.out.mono ?_); rintro e w1 ⟨rfl, hb1⟩))
    go_ret2
    exact ⟨HB.out _ (hb1.mono (by omega)), fun _ => rfl, fun h => absurd h HR.out⟩
end Go.Proofs.YtijcaejdgicbmaaDoor
