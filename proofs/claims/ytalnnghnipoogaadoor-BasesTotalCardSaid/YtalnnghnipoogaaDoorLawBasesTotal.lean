/- The law BasesTotal: a total is what all its points come to. -/
import Derived.Test.YtalnnghnipoogaaDoorKD
import Derived.Test.YtalnnghnipoogaaDoorKR
import Derived.Test.YtalnnghnipoogaaDoorTG
import Derived.Test.YtalnnghnipoogaaDoorSO
namespace Go.Proofs.YtalnnghnipoogaaDoor
open Go.RowKit

set_option maxRecDepth 100000 in
set_option maxHeartbeats 4000000 in
theorem basesTotal_any {v : Value} {xs : List Rw} {n fr mo : Int} {w : World} (h : RwsAt w v xs) (hx : ∀ a ∈ xs, a.ok) (hn : i64 n) (hf : i64 fr) (hm : i64 mo) (hsz : SizesAt w) :
    Calls Tryd.prog 5 #[v, .int .i64 n, .int .i64 fr, .int .i64 mo] w fun e w' => e = .returned (.bool true) ∧ Below w.heap.size w w' := by
  obtain ⟨ao, cap, rfl⟩ := h.isSlice
  have HKB := Lib.hid (show Calls Tryd.prog 18 #[.slice ao xs.length cap, .int .i64 40] w (KbPost xs 40 w) from kBase_any (most := 40) h hx (by decide) hsz)
  have HSZ := Lib.hid hsz
  have HN := Lib.hid fun W => kname_any (w := W) hn
  have HPA := Lib.hid fun W => picked_any2 fr 9000 W hf.1 hf.2 (by decide) (by decide)
  have HPM := Lib.hid fun W => picked_any2 mo 9000 W hm.1 hm.2 (by decide) (by decide)
  have hra := picked_range (n := fr) (m := 9000) (by decide)
  have hrm := picked_range (n := mo) (m := 9000) (by decide)
  obtain ⟨a, ha⟩ : ∃ a, picked fr 9000 = a := ⟨_, rfl⟩
  obtain ⟨m, hm'⟩ : ∃ m, picked mo 9000 = m := ⟨_, rfl⟩
  rw [ha] at HPA hra
  rw [hm'] at HPM hrm
  have hwr : IntKind.i64.wrap (a + m) = a + m := IntWalk.i64_in _ (by omega)
  clear h hx hsz hn hf hm ha hm'
  go_enter Tryd.func5, Tryd.ntmps5
  go_upto_region 2 with (go_at_call 18; (with_reducible refine HKB.out.mono ?_); rintro e w1 ⟨hb1, sa, sc, g0, l0, p0, g1, l1, p1, g2, l2, p2, b, pa, pc, pts, rfl, hat, hown, hkb, heq⟩; have HHK := Lib.hid (And.intro hkb heq); clear hkb heq)
  obtain ⟨hkb, heq⟩ := HHK.out
  obtain ⟨W1, hW1⟩ : ∃ W1, W1 = w1.alloc (.cells (baCells sa b.names.length sc g0 l0 p0 g1 l1 p1 g2 l2 p2 b) 28) := ⟨_, rfl⟩
  have hb1' : Below w1.heap.size w1 W1 := by rw [hW1]; exact belowAuto
  have hbx : BxAt W1 w1.heap.size sa sc g0 l0 p0 g1 l1 p1 g2 l2 p2 b := by rw [hW1]; exact BxAt.new hat
  have HX1 := Lib.hid (show KxAt w w1.heap.size sa sc g0 l0 p0 g1 l1 p1 g2 l2 p2 b (.slice pa pts.length pc) pts W1 from ⟨Below.trans' hb1 hb1' hb1.size, hbx, hown.below hb1' (Nat.le_refl _)⟩)
  have hsm := base_names_small hkb heq
  have hl40 : pts.length ≤ 40 := by rw [heq, List.length_map, List.length_take]; omega
  have hpo : ∀ p ∈ pts, PtOk p := fun p hp => by
    rw [heq] at hp
    obtain ⟨r, -, rfl⟩ := List.mem_map.1 hp
    exact (pointF_early r).1
  rw [← hW1]
  obtain ⟨tb, htb⟩ : ∃ tb, w1.heap.size = tb := ⟨_, rfl⟩
  rw [htb] at HX1 ⊢
  have hro : rowsOk a (a + m) := by unfold rowsOk; omega
  have HM := Lib.hid hkb.st.may
  have HK := Lib.hid fun (z : Int) W (hx : KxAt w tb sa sc g0 l0 p0 g1 l1 p1 g2 l2 p2 b (.slice pa pts.length pc) pts W) => known_any (s := nameF n) (a := a) (z := z) (hx.own.at (by omega)) (by omega) hpo
  have HCH := Lib.hid fun W (hx : KxAt w tb sa sc g0 l0 p0 g1 l1 p1 g2 l2 p2 b (.slice pa pts.length pc) pts W) => (by
    have := baseCheck_any hx.bx.at' hsm (HSZ.out.below hx.below)
    rw [show checkE b = 0 from by unfold checkE; rw [if_pos HM.out]] at this
    exact this : Calls Tryd.prog 25 #[.agg (baCells sa b.names.length sc g0 l0 p0 g1 l1 p1 g2 l2 p2 b)] W fun e w' => e = .returned (.int .i64 0) ∧ Below W.heap.size W w')
  have HCO := Lib.hid fun W (hx : KxAt w tb sa sc g0 l0 p0 g1 l1 p1 g2 l2 p2 b (.slice pa pts.length pc) pts W) => containsStr_any (s := nameF n) hx.bx.names
  by_cases hs : nameF n ∈ b.names
  · obtain ⟨e1, e2⟩ := kb_total hkb (by omega) hs hpo hro
    have hd : decide (0 ≤ placeI b.names (nameF n)) = true := decide_eq_true (place_nonneg.2 hs)
    rw [hd] at HCO
    obtain ⟨R, hR⟩ : ∃ R, knownF pts (nameF n) a (a + m) = R := ⟨_, rfl⟩
    have HK := Lib.hid fun W hx => (by have := HK.out (a + m) W hx; rw [hR] at this; exact this : Calls Tryd.prog 23 #[.slice pa pts.length pc, .string (nameF n), .int .i64 a, .int .i64 (a + m)] W fun e w' => e = .returned (.agg #[.int .i64 R.c, .int .i64 R.s, .int .i64 R.mi, .int .i64 R.ma, .int .i64 R.t, .int .i64 R.l]) ∧ Below W.heap.size W w')
    have HT := Lib.hid fun W (hx : KxAt w tb sa sc g0 l0 p0 g1 l1 p1 g2 l2 p2 b (.slice pa pts.length pc) pts W) => (by
      have := total_any (s := nameF n) (a := a) (z := a + m) hx.bx.at' hsm (HSZ.out.below hx.below)
      rw [e1, e2, hR] at this
      exact this : Calls Tryd.prog 24 #[.agg (baCells sa b.names.length sc g0 l0 p0 g1 l1 p1 g2 l2 p2 b), .string (nameF n), .int .i64 a, .int .i64 (a + m)] W fun e w' => Below W.heap.size W w' ∧ e = .returned (.tuple #[.agg #[.int .i64 R.c, .int .i64 R.s, .int .i64 R.mi, .int .i64 R.ma, .int .i64 R.t, .int .i64 R.l], .int .i64 0]))
    clear hW1 hb1 hb1' hbx hat hown hkb heq htb hsm hl40 hpo hro hs e1 e2 hd hR HKB HM HHK
    go_upto_region 3 with (go_at_call 19; (with_reducible refine (HN.out _).mono ?_); rintro e w2 ⟨rfl, hb2⟩)
    have HX2 := Lib.hid (HX1.out.later hb2)
    clear hb2
    go_upto_region 4 with (go_at_call 20; (with_reducible refine (HPA.out _).mono ?_); rintro e w3 ⟨rfl, hb3⟩)
    have HX3 := Lib.hid (HX2.out.later hb3)
    clear hb3
    go_upto_region 5 with (go_at_call 20; (with_reducible refine (HPM.out _).mono ?_); rintro e w4 ⟨rfl, hb4⟩)
    have HX4 := Lib.hid (HX3.out.later hb4)
    obtain ⟨c0, c1, c2, c3, c4, c5, c6, c7⟩ := HX4.out.bx.cells
    clear hb4
    go_upto_region 6 with (go_at_call 24; (with_reducible refine (HT.out _ HX4.out).mono ?_); rintro e w5 ⟨hb5, rfl⟩)
    obtain ⟨W5, hW5⟩ : ∃ W5, W5 = w5.alloc (.cells #[.int .i64 R.c, .int .i64 R.s, .int .i64 R.mi, .int .i64 R.ma, .int .i64 R.t, .int .i64 R.l] 55) := ⟨_, rfl⟩
    have hb5' : Below w5.heap.size w5 W5 := by rw [hW5]; exact belowAuto
    have k5 : W5.heap[w5.heap.size]? = some (.cells #[.int .i64 R.c, .int .i64 R.s, .int .i64 R.mi, .int .i64 R.ma, .int .i64 R.t, .int .i64 R.l] 55) := by rw [hW5]; exact heap_new _ _ rfl
    have HX5 := Lib.hid ((HX4.out.later hb5).later hb5')
    have HR5 := Lib.hid (fun W (hb : Below W5.heap.size W5 W) => roll_cells ((hb.block _ (by rw [hW5]; simp)).trans k5))
    have r0 := HX5.out.bx.cells.1
    rw [← hW5]
    clear hW5 hb5 hb5' k5 c0 c1 c2 c3 c4 c5 c6 c7
    go_upto_region 8 with (go_at_call 22; (with_reducible refine (HCO.out _ HX5.out).mono ?_); rintro e w6 ⟨rfl, hb6⟩)
    have HX6 := Lib.hid (HX5.out.later hb6)
    have HB6 := Lib.hid hb6
    clear hb6 r0
    have HX6d := Lib.hid (HX6.out.later (Below.refl _ _).drew)
    refine wp_region_schedG [(0, 1), (1, 1), (2, 1), (3, 0), (4, 1), (5, 1), (6, 1), (7, 1), (8, 2), (9, 1), (10, 1), (11, 1), (12, 0), (13, 2), (14, 1), (15, 1), (16, 3)] 16
      (fun W => (W.cell? ⟨w5.heap.size, 0, none⟩ = some (.int .i64 R.c) ∧ W.cell? ⟨w5.heap.size, 1, none⟩ = some (.int .i64 R.s) ∧ W.cell? ⟨w5.heap.size, 2, none⟩ = some (.int .i64 R.mi) ∧ W.cell? ⟨w5.heap.size, 3, none⟩ = some (.int .i64 R.ma) ∧ W.cell? ⟨w5.heap.size, 4, none⟩ = some (.int .i64 R.t) ∧ W.cell? ⟨w5.heap.size, 5, none⟩ = some (.int .i64 R.l)) ∧
        W.cell? ⟨tb, 0, none⟩ = some (.slice sa b.names.length sc) ∧ W.cell? ⟨tb, 1, none⟩ = some (.slice g0 l0 p0) ∧ W.cell? ⟨tb, 2, none⟩ = some (.int .i64 b.t0.root) ∧ W.cell? ⟨tb, 3, none⟩ = some (.slice g1 l1 p1) ∧ W.cell? ⟨tb, 4, none⟩ = some (.int .i64 b.t1.root) ∧ W.cell? ⟨tb, 5, none⟩ = some (.slice g2 l2 p2) ∧ W.cell? ⟨tb, 6, none⟩ = some (.int .i64 b.t2.root) ∧ W.cell? ⟨tb, 7, none⟩ = some (.int .i64 b.floor))
      (by kernel_rfl) (by kernel_rfl) ⟨HR5.out _ (HB6.out.drew), HX6d.out.bx.cells⟩ ?_
    (simp only [pickS, List.filterMap_cons, List.filterMap_nil, List.getElem?_cons_zero, List.getElem?_cons_succ, Option.map_some])
    (repeat (first | ((refine schedG_pure (v := ?_) ?_ (fun W => ?_) ?_); rotate_left; (focus (first | exact wanted_bare rfl _ | exact wanted_yes rfl rfl rfl rfl)); (focus (go_simp; (try with_reducible rfl); done)); (try simp only [Act.put, List.setIfInBounds_toArray, List.set_cons_zero, List.set_cons_succ])) | ((refine schedG_read (v := ?_) ?_ (fun W hW => ?_) ?_); rotate_left; (focus (first | exact wanted_bare rfl _ | exact wanted_yes rfl rfl rfl rfl)); (focus ((try dsimp only at hW); go_simp; (try with_reducible rfl); done)); (try simp only [Act.put, List.setIfInBounds_toArray, List.set_cons_zero, List.set_cons_succ])) | ((refine schedG_skip ?_ ?_); (focus exact wanted_no rfl rfl rfl rfl); (try simp only [Act.put, List.setIfInBounds_toArray, List.set_cons_zero, List.set_cons_succ]))))
    refine schedG_does ?_ (fun K hK => ?_)
    (focus (first | exact wanted_bare rfl _ | exact wanted_yes rfl rfl rfl rfl))
    go_simp
    (with_reducible refine (HK.out _ HX6d.out).mono ?_); rintro e w7 ⟨rfl, hb7⟩
    go_simp
    refine hK _ _ ⟨HR5.out _ (Below.trans' (HB6.out.drew) hb7 HB6.out.size), (HX6d.out.later hb7).bx.cells⟩ ?_
    clear hK K
    have HX7 := Lib.hid (HX6d.out.later hb7)
    (repeat (first | ((refine schedG_pure (v := ?_) ?_ (fun W => ?_) ?_); rotate_left; (focus (first | exact wanted_bare rfl _ | exact wanted_yes rfl rfl rfl rfl)); (focus (go_simp; (try with_reducible rfl); done)); (try simp only [Act.put, List.setIfInBounds_toArray, List.set_cons_zero, List.set_cons_succ])) | ((refine schedG_read (v := ?_) ?_ (fun W hW => ?_) ?_); rotate_left; (focus (first | exact wanted_bare rfl _ | exact wanted_yes rfl rfl rfl rfl)); (focus ((try dsimp only at hW); go_simp; (try with_reducible rfl); done)); (try simp only [Act.put, List.setIfInBounds_toArray, List.set_cons_zero, List.set_cons_succ])) | ((refine schedG_skip ?_ ?_); (focus exact wanted_no rfl rfl rfl rfl); (try simp only [Act.put, List.setIfInBounds_toArray, List.set_cons_zero, List.set_cons_succ]))))
    refine schedG_does ?_ (fun K hK => ?_)
    (focus (first | exact wanted_bare rfl _ | exact wanted_yes rfl rfl rfl rfl))
    go_simp
    (with_reducible refine (HCH.out _ HX7.out).mono ?_); rintro e w8 ⟨rfl, hb8⟩
    go_simp
    refine hK _ _ ⟨HR5.out _ (Below.trans' (Below.trans' (HB6.out.drew) hb7 HB6.out.size) hb8 (by have := HB6.out.size; have := hb7.size; simp at *; omega)), (HX7.out.later hb8).bx.cells⟩ ?_
    clear hK K
    (repeat (first | ((refine schedG_pure (v := ?_) ?_ (fun W => ?_) ?_); rotate_left; (focus (first | exact wanted_bare rfl _ | exact wanted_yes rfl rfl rfl rfl)); (focus (go_simp; (try with_reducible rfl); done)); (try simp only [Act.put, List.setIfInBounds_toArray, List.set_cons_zero, List.set_cons_succ])) | ((refine schedG_read (v := ?_) ?_ (fun W hW => ?_) ?_); rotate_left; (focus (first | exact wanted_bare rfl _ | exact wanted_yes rfl rfl rfl rfl)); (focus ((try dsimp only at hW); go_simp; (try with_reducible rfl); done)); (try simp only [Act.put, List.setIfInBounds_toArray, List.set_cons_zero, List.set_cons_succ])) | ((refine schedG_skip ?_ ?_); (focus exact wanted_no rfl rfl rfl rfl); (try simp only [Act.put, List.setIfInBounds_toArray, List.set_cons_zero, List.set_cons_succ]))))
    refine schedG_last ?_ (fun K hK => ?_)
    (focus (first | exact wanted_bare rfl _ | exact wanted_yes rfl rfl rfl rfl))
    go_simp
    refine hK _ _ ?_
    clear hK K
    refine schedG_end ?_
    go_wp2_with fail
    go_ret
    exact ⟨ret_bool (by simp), (HX7.out.later hb8).below⟩
  · obtain ⟨e1, e2⟩ := kb_none (a := a) (z := a + m) hkb hs
    have hd : decide (0 ≤ placeI b.names (nameF n)) = false := decide_eq_false fun hh => hs (place_nonneg.1 hh)
    rw [hd] at HCO
    obtain ⟨R, hR⟩ : ∃ R, Roll.zero = R := ⟨_, rfl⟩
    have HT := Lib.hid fun W (hx : KxAt w tb sa sc g0 l0 p0 g1 l1 p1 g2 l2 p2 b (.slice pa pts.length pc) pts W) => (by
      have := total_any (s := nameF n) (a := a) (z := a + m) hx.bx.at' hsm (HSZ.out.below hx.below)
      rw [e1, e2, hR] at this
      exact this : Calls Tryd.prog 24 #[.agg (baCells sa b.names.length sc g0 l0 p0 g1 l1 p1 g2 l2 p2 b), .string (nameF n), .int .i64 a, .int .i64 (a + m)] W fun e w' => Below W.heap.size W w' ∧ e = .returned (.tuple #[.agg #[.int .i64 R.c, .int .i64 R.s, .int .i64 R.mi, .int .i64 R.ma, .int .i64 R.t, .int .i64 R.l], .int .i64 6]))
    clear hW1 hb1 hb1' hbx hat hown hkb heq htb hsm hl40 hpo hro hs e1 e2 hd hR HKB HM HHK
    go_upto_region 3 with (go_at_call 19; (with_reducible refine (HN.out _).mono ?_); rintro e w2 ⟨rfl, hb2⟩)
    have HX2 := Lib.hid (HX1.out.later hb2)
    clear hb2
    go_upto_region 4 with (go_at_call 20; (with_reducible refine (HPA.out _).mono ?_); rintro e w3 ⟨rfl, hb3⟩)
    have HX3 := Lib.hid (HX2.out.later hb3)
    clear hb3
    go_upto_region 5 with (go_at_call 20; (with_reducible refine (HPM.out _).mono ?_); rintro e w4 ⟨rfl, hb4⟩)
    have HX4 := Lib.hid (HX3.out.later hb4)
    obtain ⟨c0, c1, c2, c3, c4, c5, c6, c7⟩ := HX4.out.bx.cells
    clear hb4
    go_upto_region 6 with (go_at_call 24; (with_reducible refine (HT.out _ HX4.out).mono ?_); rintro e w5 ⟨hb5, rfl⟩)
    obtain ⟨W5, hW5⟩ : ∃ W5, W5 = w5.alloc (.cells #[.int .i64 R.c, .int .i64 R.s, .int .i64 R.mi, .int .i64 R.ma, .int .i64 R.t, .int .i64 R.l] 55) := ⟨_, rfl⟩
    have hb5' : Below w5.heap.size w5 W5 := by rw [hW5]; exact belowAuto
    have k5 : W5.heap[w5.heap.size]? = some (.cells #[.int .i64 R.c, .int .i64 R.s, .int .i64 R.mi, .int .i64 R.ma, .int .i64 R.t, .int .i64 R.l] 55) := by rw [hW5]; exact heap_new _ _ rfl
    have HX5 := Lib.hid ((HX4.out.later hb5).later hb5')
    have HR5 := Lib.hid (fun W (hb : Below W5.heap.size W5 W) => roll_cells ((hb.block _ (by rw [hW5]; simp)).trans k5))
    have r0 := HX5.out.bx.cells.1
    rw [← hW5]
    clear hW5 hb5 hb5' k5 c0 c1 c2 c3 c4 c5 c6 c7
    go_wp2_with (go_at_call 22; (with_reducible refine (HCO.out _ HX5.out).mono ?_); rintro e w6 ⟨rfl, hb6⟩)
    go_ret
    exact ⟨ret_bool (by simp), (HX5.out.later hb6).below⟩
end Go.Proofs.YtalnnghnipoogaaDoor
