/- The law BasesRows: a bucket is what the points within it come to. -/
import Derived.Test.YtalnnghnipoogaaDoorKD
import Derived.Test.YtalnnghnipoogaaDoorKR
import Derived.Test.YtalnnghnipoogaaDoorSO
namespace Go.Proofs.YtalnnghnipoogaaDoor
open Go.RowKit

theorem allC_take {R : List Ent} (h : ∀ x ∈ R, 0 ≤ x.is.c) (k : Nat) : 0 ≤ allC (R.take k) ∧ allC (R.take k) ≤ allC R := by
  have nn : ∀ (L : List Ent), (∀ x ∈ L, 0 ≤ x.is.c) → 0 ≤ allC L := fun L => by
    induction L with
    | nil => intro _; simp [allC]
    | cons e l ih =>
      intro h
      rw [allC_cons]
      have h1 := ih fun x hx => h x (by simp [hx])
      have h2 := h e (by simp)
      omega
  refine ⟨nn _ fun x hx => h x (List.mem_of_mem_take hx), ?_⟩
  have e : allC R = allC (R.take k) + allC (R.drop k) := by rw [← allC_append, List.take_append_drop]
  have := nn (R.drop k) fun x hx => h x (List.mem_of_mem_drop hx)
  omega
theorem picked3 (n : Int) : ∃ q : Nat, q < 3 ∧ picked n 3 = (q : Int) := by
  have := picked_range (n := n) (m := 3) (by decide)
  exact ⟨(picked n 3).toNat, by omega, by omega⟩
theorem szOf_bounds (q : Nat) : 1 ≤ szOf q ∧ szOf q ≤ 3600 ∧ szOf q + 1 ≠ 1 ∧ szOf q + 1 ≠ 60 ∧ szOf q + 1 ≠ 3600 := by
  unfold szOf; split
  · decide
  · split <;> decide
theorem fld_count (r : Roll) (w : World) : (Instr.field 55 (.agg #[.int .i64 r.c, .int .i64 r.s, .int .i64 r.mi, .int .i64 r.ma, .int .i64 r.t, .int .i64 r.l]) 0).run Tryd.prog w = .ok (.int .i64 r.c) w := by
  unfold Instr.field asAgg
  simp [go_sem]
set_option maxRecDepth 100000 in
set_option maxHeartbeats 8000000 in
theorem basesRows_any {v : Value} {xs : List Rw} {n wh : Int} {w : World} (h : RwsAt w v xs) (hx : ∀ a ∈ xs, a.ok) (hn : i64 n) (hw : i64 wh) (hsz : SizesAt w) :
    Calls Tryd.prog 4 #[v, .int .i64 n, .int .i64 wh] w fun e w' => e = .returned (.bool true) ∧ Below w.heap.size w w' := by
  obtain ⟨ao, cap, rfl⟩ := h.isSlice
  have HKB := Lib.hid (show Calls Tryd.prog 18 #[.slice ao xs.length cap, .int .i64 40] w (KbPost xs 40 w) from kBase_any (most := 40) h hx (by decide) hsz)
  have HSZ := Lib.hid hsz
  have HN := Lib.hid fun W => kname_any (w := W) hn
  obtain ⟨q, hq, hqe⟩ := picked3 wh
  have HPW := Lib.hid fun W => (by have := picked_any2 wh 3 W hw.1 hw.2 (by decide) (by decide); rw [hqe] at this; exact this : Calls Tryd.prog 20 #[.int .i64 wh, .int .i64 3] W fun e w' => e = .returned (.int .i64 (q : Int)) ∧ Below W.heap.size W w')
  clear h hx hsz hn hw hqe
  go_enter Tryd.func4, Tryd.ntmps4
  go_upto_region 2 with (go_at_call 18; (with_reducible refine HKB.out.mono ?_); rintro e w1 ⟨hb1, sa, sc, g0, l0, p0, g1, l1, p1, g2, l2, p2, b, pa, pc, pts, rfl, hat, hown, hkb, heq⟩; have HHK := Lib.hid (And.intro hkb heq); clear hkb heq)
  obtain ⟨hkb, heq⟩ := HHK.out
  obtain ⟨W1, hW1⟩ : ∃ W1, W1 = w1.alloc (.cells (baCells sa b.names.length sc g0 l0 p0 g1 l1 p1 g2 l2 p2 b) 28) := ⟨_, rfl⟩
  have hb1' : Below w1.heap.size w1 W1 := by rw [hW1]; exact belowAuto
  have hbx : BxAt W1 w1.heap.size sa sc g0 l0 p0 g1 l1 p1 g2 l2 p2 b := by rw [hW1]; exact BxAt.new hat
  have HX1 := Lib.hid (show KxAt w w1.heap.size sa sc g0 l0 p0 g1 l1 p1 g2 l2 p2 b (.slice pa pts.length pc) pts W1 from ⟨Below.trans' hb1 hb1' hb1.size, hbx, hown.below hb1' (Nat.le_refl _)⟩)
  have hsm := base_names_small hkb heq
  have hl40 : pts.length ≤ 40 := by rw [heq, List.length_map, List.length_take]; omega
  have hpe : ∀ p ∈ pts, PtEarly p := fun p hp => by
    rw [heq] at hp
    obtain ⟨r, -, rfl⟩ := List.mem_map.1 hp
    exact pointF_early r
  have hpo : ∀ p ∈ pts, PtOk p := fun p hp => (hpe p hp).1
  rw [← hW1]
  obtain ⟨tb, htb⟩ : ∃ tb, w1.heap.size = tb := ⟨_, rfl⟩
  rw [htb] at HX1 ⊢
  have HK := Lib.hid fun (a z : Int) W (hx : KxAt w tb sa sc g0 l0 p0 g1 l1 p1 g2 l2 p2 b (.slice pa pts.length pc) pts W) => known_any (s := nameF n) (a := a) (z := z) (hx.own.at (by omega)) (by omega) hpo
  have HCO := Lib.hid fun W (hx : KxAt w tb sa sc g0 l0 p0 g1 l1 p1 g2 l2 p2 b (.slice pa pts.length pc) pts W) => containsStr_any (s := nameF n) hx.bx.names
  have hbd := szOf_bounds q
  have HRW := Lib.hid fun (m z : Int) W (hx : KxAt w tb sa sc g0 l0 p0 g1 l1 p1 g2 l2 p2 b (.slice pa pts.length pc) pts W) => rows_any (s := nameF n) (n := m) (a := 0) (z := z) hx.bx.at' hsm (HSZ.out.below hx.below)
  by_cases hs : nameF n ∈ b.names
  · have hd : decide (0 ≤ placeI b.names (nameF n)) = true := decide_eq_true (place_nonneg.2 hs)
    rw [hd] at HCO
    obtain ⟨e1, hra⟩ := kb_rows hkb (by omega) hs hpe hq
    obtain ⟨e2, e3⟩ := rowsE_size (a := 0) (z := 1) (kb_series hkb hs) ⟨hbd.2.2.1, hbd.2.2.2.1, hbd.2.2.2.2⟩
    obtain ⟨S, hS⟩ : ∃ S, szOf q = S := ⟨_, rfl⟩
    obtain ⟨R, hR⟩ : ∃ R, rowsR b (nameF n) (szOf q) 0 1048575 = R := ⟨_, rfl⟩
    rw [hR] at hra
    have HR1 := Lib.hid fun W hx => (by have := HRW.out (szOf q) 1048575 W hx; rw [e1, hR, hS] at this; exact this : Calls Tryd.prog 21 #[.agg (baCells sa b.names.length sc g0 l0 p0 g1 l1 p1 g2 l2 p2 b), .string (nameF n), .int .i64 S, .int .i64 0, .int .i64 1048575] W (RowsPost W.heap.size W R 0))
    have HR2 := Lib.hid fun W hx => (by have := HRW.out (szOf q + 1) 1 W hx; rw [e2, e3, hS] at this; exact this : Calls Tryd.prog 21 #[.agg (baCells sa b.names.length sc g0 l0 p0 g1 l1 p1 g2 l2 p2 b), .string (nameF n), .int .i64 (S + 1), .int .i64 0, .int .i64 1] W (RowsPost W.heap.size W [] 3))
    rw [hS] at hra hbd
    have hwS : IntKind.i64.wrap (S + 1) = S + 1 := IntWalk.i64_in _ (by omega)
    have HSQ := Lib.hid hS
    have HRA := Lib.hid hra
    have hkok := knownF_ok (s := nameF n) (a := 0) (z := 1048575) (ps := pts) (by omega) hpo
    have HKO := Lib.hid hkok
    have hbd := And.intro hbd.1 hbd.2.1
    clear hW1 hb1 hb1' hbx hat hown hkb heq htb hsm hpo hpe hs e1 e2 e3 hd hR hS HKB HHK HRW hra hkok
    go_upto_region 3 with (go_at_call 19; (with_reducible refine (HN.out _).mono ?_); rintro e w2 ⟨rfl, hb2⟩)
    have HX2 := Lib.hid (HX1.out.later hb2)
    clear hb2
    have hix := fun w' => idx_int (ab := w2.heap.size) (aoff := 0) (n := 3) (cap := 3) (show (q : Int) = ((q : Nat) : Int) by rfl) hq w'
    have HX2' := Lib.hid (HX2.out.later (show Below w2.heap.size w2 (w2.alloc (.cells #[.int .i64 1, .int .i64 60, .int .i64 3600] 3)) from belowAuto))
    go_upto_region 4 with (go_at_call 20; (with_reducible refine (HPW.out _).mono ?_); rintro e w3 ⟨rfl, hb3⟩; have HX3 := Lib.hid (HX2'.out.later hb3); obtain ⟨kq⟩ : Nonempty (w3.cell? ⟨w2.heap.size, q, none⟩ = some (.int .i64 S)) := ⟨(by
      have k3 : w3.heap[w2.heap.size]? = some (.cells #[.int .i64 1, .int .i64 60, .int .i64 3600] 3) := (hb3.block _ (by simp)).trans (heap_new _ _ rfl)
      rw [← HSQ.out]
      obtain rfl | rfl | rfl : q = 0 ∨ q = 1 ∨ q = 2 := by omega
      all_goals simp [World.cell?, k3, szOf])⟩; clear hb3)
    obtain ⟨c0, c1, c2, c3, c4, c5, c6, c7⟩ := HX3.out.bx.cells
    clear kq hix
    go_upto_region 5 with (go_at_call 21; (with_reducible refine (HR1.out _ HX3.out).mono ?_); rintro e w4 ⟨hb4, rv, rfl, hrow⟩; have HX4 := Lib.hid (HX3.out.later hb4); have HB4 := Lib.hid hb4; have HRO4 := Lib.hid hrow; obtain ⟨ra, rc, rfl⟩ := hrow.isSlice; obtain ⟨c0, c1, c2, c3, c4, c5, c6, c7⟩ := HX4.out.bx.cells; clear hb4 hrow)
    go_upto_region 6 with (go_at_call 21; (with_reducible refine (HR2.out _ HX4.out).mono ?_); rintro e w5 ⟨hb5, rv2, rfl, hrow2⟩; have HX5 := Lib.hid (HX4.out.later hb5); have HRO5 := Lib.hid (HRO4.out.below hb5 (Nat.le_refl _)); obtain ⟨ra2, rc2, rfl⟩ := hrow2.isSlice; have d0 := HX5.out.bx.cells.1; clear hb5 hrow2)
    go_upto_region 9 with (go_at_call 22; (with_reducible refine (HCO.out _ HX5.out).mono ?_); rintro e w6 ⟨rfl, hb6⟩; have HX6 := Lib.hid (HX5.out.later hb6); have HRO6 := Lib.hid (HRO5.out.below hb6 (Nat.le_refl _)); clear hb6 d0)
    have hrl : R.length ≤ 500 := HRA.out.len
    obtain ⟨ao', cap', hv, r1, r2, r3, r4, r5⟩ := HRO6.out.at (by omega)
    injection hv with hv1 _ hv3
    subst hv1 hv3
    have HW := Lib.hid HX6.out.below
    go_wp2_with fail
    go_loopg [15, 58] R.length (fun g cv i wr => ∃ (k : Nat) (C : Int), k ≤ R.length ∧ g = R.length - k ∧ i = .int .i64 k ∧ cv = .int .i64 C ∧ Hid (allC (R.take k) = C ∧ Below w6.heap.size w6 wr))
    case atStart => exact ⟨0, 0, Nat.zero_le _, rfl, rfl, rfl, Lib.hid ⟨by simp [allC], Below.refl _ _⟩⟩
    case round =>
      obtain ⟨k, C, hk, rfl, rfl, rfl, HR⟩ := hrel
      by_cases hlt : k < R.length
      · obtain ⟨eb, eoff, rfl, heb, hec⟩ := r5 (by omega)
        obtain ⟨c0, c1, c2, c3, c4, c5, c6⟩ := ent_cells HR.out.2 heb hec hlt
        have hea := HRA.out.each _ (List.getElem_mem hlt)
        have HPV := Lib.hid fun (h0 : 0 < k) => (And.intro (ent_cells HR.out.2 heb hec (show k - 1 < R.length by omega)).1 (List.pairwise_iff_getElem.1 HRA.out.rising (k - 1) k (by omega) hlt (by omega)))
        have hix := fun w' => idx_rows (ab := eb) (aoff := eoff) (n := R.length) (cap := rc) (show (k : Int) = ((k : Nat) : Int) by rfl) hlt w'
        have hix1 := fun (h0 : 0 < k) w' => idx_rows (ab := eb) (aoff := eoff) (n := R.length) (cap := rc) (show (k : Int) - 1 = ((k - 1 : Nat) : Int) by omega) (show k - 1 < R.length by omega) w'
        have htk := List.take_succ_eq_append_getElem hlt
        obtain ⟨e, he⟩ : ∃ e, R[k] = e := ⟨_, rfl⟩
        rw [he] at c0 c1 c2 c3 c4 c5 c6 hea htk HPV
        have HC1 := Lib.hid (show allC (R.take (k + 1)) = C + e.is.c by rw [htk, allC_append, HR.out.1, allC_cons, allC_nil]; omega)
        have HC2 := Lib.hid (allC_take HRA.out.cpos (k + 1))
        have HC3 := Lib.hid (allC_take HRA.out.cpos k)
        have hcw : IntKind.i64.wrap (C + e.is.c) = C + e.is.c := IntWalk.i64_in _ (by have h1 := HC2.out; have h2 := HRA.out.all; have h3 := HKO.out; rw [HC1.out] at h1; omega)
        have hm0 : e.key.tmod S = 0 := by rw [Int.tmod_eq_emod_of_nonneg hea.1]; exact hea.2.2.1
        have hm1 : (e.is.c == 0) = false := by have := hea.2.2.2.1; simpa using this
        have hw1 : IntKind.i64.wrap (e.key + S) = e.key + S := IntWalk.i64_in _ (by omega)
        have hw2 : IntKind.i64.wrap (e.key + S - 1) = e.key + S - 1 := IntWalk.i64_in _ (by omega)
        have hS0 : (S == 0) = false := by simp; omega
        have hS0' : ¬ S = 0 := by omega
        have HKN := Lib.hid fun W hx => (by have := HK.out e.key (e.key + S - 1) W hx; rw [← hea.2.2.2.2] at this; exact this : Calls Tryd.prog 23 #[.slice pa pts.length pc, .string (nameF n), .int .i64 e.key, .int .i64 (e.key + S - 1)] W fun x w' => x = .returned (.agg #[.int .i64 e.is.c, .int .i64 e.is.s, .int .i64 e.is.mi, .int .i64 e.is.ma, .int .i64 e.is.t, .int .i64 e.is.l]) ∧ Below W.heap.size W w')
        clear he htk hea r5 hec
        go_upto_region 12 with (fail)
        obtain ⟨W8, hW8⟩ : ∃ W', W' = wr.alloc (.cells #[.int .i64 e.key, .int .i64 e.is.c, .int .i64 e.is.s, .int .i64 e.is.mi, .int .i64 e.is.ma, .int .i64 e.is.t, .int .i64 e.is.l] 57) := ⟨_, rfl⟩
        have hb8 : Below wr.heap.size wr W8 := by rw [hW8]; exact belowAuto
        have k8 : W8.heap[wr.heap.size]? = some (.cells #[.int .i64 e.key, .int .i64 e.is.c, .int .i64 e.is.s, .int .i64 e.is.mi, .int .i64 e.is.ma, .int .i64 e.is.t, .int .i64 e.is.l] 57) := by rw [hW8]; exact heap_new _ _ rfl
        have HBW := Lib.hid (Below.trans' HR.out.2 hb8 HR.out.2.size)
        have HY := Lib.hid ((HX6.out.later HBW.out).later (Below.refl _ _).drew)
        have HBY := Lib.hid (HBW.out.drew)
        have HF := Lib.hid fun W (hb : Below W8.drew.heap.size W8.drew W) => (by
          have b0 := (hb.block wr.heap.size (by rw [hW8]; simp)).trans k8
          simp [World.cell?, b0] : W.cell? ⟨wr.heap.size, 0, none⟩ = some (.int .i64 e.key) ∧ W.cell? ⟨wr.heap.size, 1, none⟩ = some (.int .i64 e.is.c) ∧ W.cell? ⟨wr.heap.size, 2, none⟩ = some (.int .i64 e.is.s) ∧ W.cell? ⟨wr.heap.size, 3, none⟩ = some (.int .i64 e.is.mi) ∧ W.cell? ⟨wr.heap.size, 4, none⟩ = some (.int .i64 e.is.ma) ∧ W.cell? ⟨wr.heap.size, 5, none⟩ = some (.int .i64 e.is.t) ∧ W.cell? ⟨wr.heap.size, 6, none⟩ = some (.int .i64 e.is.l))
        have hlw := HR.out.2.size
        rw [← hW8]
        clear c0 c1 c2 c3 c4 c5 c6
        by_cases h0 : 0 < k
        · obtain ⟨pv, plt⟩ := HPV.out h0
          have hix1 := hix1 h0
          obtain ⟨P, hP⟩ : ∃ P, R[k - 1].key = P := ⟨_, rfl⟩
          rw [hP] at pv plt
          have hpd : decide (e.key ≤ P) = false := decide_eq_false (by omega)
          have hk0 : (0 : Int) < (k : Int) := by omega
          have hw3 : IntKind.i64.wrap ((k : Int) - 1) = (k : Int) - 1 := IntWalk.i64_in _ (by omega)
          have HPC := Lib.hid fun W (hb : Below W8.drew.heap.size W8.drew W) => ((hb.cell (p := ⟨eb, eoff + (k - 1) * 7, none⟩) (by show eb < _; simp; rw [hW8]; simp; omega)).trans ((hb8.cell (p := ⟨eb, eoff + (k - 1) * 7, none⟩) (by show eb < _; omega)).trans pv) : W.cell? ⟨eb, eoff + (k - 1) * 7, none⟩ = some (.int .i64 P))
          clear hW8 hb8 k8 pv plt hP hix HPV
          refine wp_region_schedG [(0, 1), (1, 0), (2, 1), (3, 1), (4, 1), (5, 1), (6, 1), (7, 1), (8, 1), (9, 1), (10, 1), (11, 1), (12, 1), (13, 1), (14, 0), (15, 1), (16, 0), (17, 1), (18, 1), (19, 1), (20, 1), (21, 1), (22, 0), (23, 1), (24, 1), (25, 1), (26, 0), (27, 1), (28, 0), (29, 1), (30, 1), (31, 1), (32, 2), (33, 1), (34, 1), (35, 1), (36, 1), (37, 1), (38, 0), (39, 1), (40, 3)] 40
            (fun W => (W.cell? ⟨wr.heap.size, 0, none⟩ = some (.int .i64 e.key) ∧ W.cell? ⟨wr.heap.size, 1, none⟩ = some (.int .i64 e.is.c) ∧ W.cell? ⟨wr.heap.size, 2, none⟩ = some (.int .i64 e.is.s) ∧ W.cell? ⟨wr.heap.size, 3, none⟩ = some (.int .i64 e.is.mi) ∧ W.cell? ⟨wr.heap.size, 4, none⟩ = some (.int .i64 e.is.ma) ∧ W.cell? ⟨wr.heap.size, 5, none⟩ = some (.int .i64 e.is.t) ∧ W.cell? ⟨wr.heap.size, 6, none⟩ = some (.int .i64 e.is.l)) ∧ W.cell? ⟨eb, eoff + (k - 1) * 7, none⟩ = some (.int .i64 P)) (by kernel_rfl) (by kernel_rfl) ⟨HF.out _ (Below.refl _ _), HPC.out _ (Below.refl _ _)⟩ ?_
          (simp only [pickS, List.filterMap_cons, List.filterMap_nil, List.getElem?_cons_zero, List.getElem?_cons_succ, Option.map_some])
          (repeat (first | ((refine schedG_pure (v := ?_) ?_ (fun W => ?_) ?_); rotate_left; (focus (first | exact wanted_bare rfl _ | exact wanted_yes rfl rfl rfl rfl)); (focus (go_simp; (try with_reducible rfl); done)); (try simp only [Act.put, List.setIfInBounds_toArray, List.set_cons_zero, List.set_cons_succ])) | ((refine schedG_read (v := ?_) ?_ (fun W hW => ?_) ?_); rotate_left; (focus (first | exact wanted_bare rfl _ | exact wanted_yes rfl rfl rfl rfl)); (focus ((try dsimp only at hW); go_simp; (try with_reducible rfl); done)); (try simp only [Act.put, List.setIfInBounds_toArray, List.set_cons_zero, List.set_cons_succ])) | ((refine schedG_skip ?_ ?_); (focus exact wanted_no rfl rfl rfl rfl); (try simp only [Act.put, List.setIfInBounds_toArray, List.set_cons_zero, List.set_cons_succ]))))
          refine schedG_does ?_ (fun K hK => ?_)
          (focus (first | exact wanted_bare rfl _ | exact wanted_yes rfl rfl rfl rfl))
          go_simp
          (with_reducible refine (HKN.out _ HY.out).mono ?_); rintro x w7 ⟨rfl, hb7⟩
          go_simp
          refine hK _ _ ⟨HF.out _ hb7, HPC.out _ hb7⟩ ?_
          clear hK K
          have HZ := Lib.hid (HY.out.later hb7)
          have HBZ := Lib.hid (Below.trans' HBY.out hb7 HBY.out.size)
          have HFZ := Lib.hid (HF.out _ hb7)
          (repeat (first | ((refine schedG_pure (v := ?_) ?_ (fun W => ?_) ?_); rotate_left; (focus (first | exact wanted_bare rfl _ | exact wanted_yes rfl rfl rfl rfl)); (focus (go_simp; (try with_reducible rfl); done)); (try simp only [Act.put, List.setIfInBounds_toArray, List.set_cons_zero, List.set_cons_succ])) | ((refine schedG_read (v := ?_) ?_ (fun W hW => ?_) ?_); rotate_left; (focus (first | exact wanted_bare rfl _ | exact wanted_yes rfl rfl rfl rfl)); (focus ((try dsimp only at hW); go_simp; (try with_reducible rfl); done)); (try simp only [Act.put, List.setIfInBounds_toArray, List.set_cons_zero, List.set_cons_succ])) | ((refine schedG_skip ?_ ?_); (focus exact wanted_no rfl rfl rfl rfl); (try simp only [Act.put, List.setIfInBounds_toArray, List.set_cons_zero, List.set_cons_succ]))))
          refine schedG_last ?_ (fun K hK => ?_)
          (focus (first | exact wanted_bare rfl _ | exact wanted_yes rfl rfl rfl rfl))
          go_simp
          refine hK _ _ ?_
          clear hK K
          refine schedG_end ?_
          obtain ⟨y0, y1, -⟩ := HFZ.out
          clear HF HY HBY hb7 HKN
          go_wp2_with fail
          go_roundg (R.length - (k + 1))
          case measure => omega
          case rel => exact ⟨k + 1, C + e.is.c, by omega, rfl, by go_num, rfl, Lib.hid ⟨by rw [HC1.out], HBZ.out⟩⟩

        · obtain rfl : k = 0 := by omega
          have hk0 : ((0 : Nat) : Int) = 0 := rfl
          rw [hk0]
          clear hW8 hb8 k8 hix hix1 HPV h0 hk0
          refine wp_region_schedG [(0, 1), (1, 0), (2, 1), (3, 1), (4, 1), (5, 1), (6, 1), (7, 1), (8, 1), (9, 1), (10, 1), (11, 1), (12, 1), (13, 1), (14, 0), (15, 1), (16, 0), (17, 1), (18, 1), (19, 1), (20, 1), (21, 1), (22, 0), (23, 1), (24, 1), (25, 1), (26, 0), (27, 1), (28, 0), (29, 1), (30, 1), (31, 1), (32, 2), (33, 1), (34, 1), (35, 1), (36, 1), (37, 1), (38, 0), (39, 1), (40, 3)] 40
            (fun W => W.cell? ⟨wr.heap.size, 0, none⟩ = some (.int .i64 e.key) ∧ W.cell? ⟨wr.heap.size, 1, none⟩ = some (.int .i64 e.is.c) ∧ W.cell? ⟨wr.heap.size, 2, none⟩ = some (.int .i64 e.is.s) ∧ W.cell? ⟨wr.heap.size, 3, none⟩ = some (.int .i64 e.is.mi) ∧ W.cell? ⟨wr.heap.size, 4, none⟩ = some (.int .i64 e.is.ma) ∧ W.cell? ⟨wr.heap.size, 5, none⟩ = some (.int .i64 e.is.t) ∧ W.cell? ⟨wr.heap.size, 6, none⟩ = some (.int .i64 e.is.l)) (by kernel_rfl) (by kernel_rfl) (HF.out _ (Below.refl _ _)) ?_
          (simp only [pickS, List.filterMap_cons, List.filterMap_nil, List.getElem?_cons_zero, List.getElem?_cons_succ, Option.map_some])
          (repeat (first | ((refine schedG_pure (v := ?_) ?_ (fun W => ?_) ?_); rotate_left; (focus (first | exact wanted_bare rfl _ | exact wanted_yes rfl rfl rfl rfl)); (focus (go_simp; (try with_reducible rfl); done)); (try simp only [Act.put, List.setIfInBounds_toArray, List.set_cons_zero, List.set_cons_succ])) | ((refine schedG_read (v := ?_) ?_ (fun W hW => ?_) ?_); rotate_left; (focus (first | exact wanted_bare rfl _ | exact wanted_yes rfl rfl rfl rfl)); (focus ((try dsimp only at hW); go_simp; (try with_reducible rfl); done)); (try simp only [Act.put, List.setIfInBounds_toArray, List.set_cons_zero, List.set_cons_succ])) | ((refine schedG_skip ?_ ?_); (focus exact wanted_no rfl rfl rfl rfl); (try simp only [Act.put, List.setIfInBounds_toArray, List.set_cons_zero, List.set_cons_succ]))))
          refine schedG_does ?_ (fun K hK => ?_)
          (focus (first | exact wanted_bare rfl _ | exact wanted_yes rfl rfl rfl rfl))
          go_simp
          (with_reducible refine (HKN.out _ HY.out).mono ?_); rintro x w7 ⟨rfl, hb7⟩
          go_simp
          refine hK _ _ (HF.out _ hb7) ?_
          clear hK K
          have HZ := Lib.hid (HY.out.later hb7)
          have HBZ := Lib.hid (Below.trans' HBY.out hb7 HBY.out.size)
          have HFZ := Lib.hid (HF.out _ hb7)
          (repeat (first | ((refine schedG_pure (v := ?_) ?_ (fun W => ?_) ?_); rotate_left; (focus (first | exact wanted_bare rfl _ | exact wanted_yes rfl rfl rfl rfl)); (focus (go_simp; (try with_reducible rfl); done)); (try simp only [Act.put, List.setIfInBounds_toArray, List.set_cons_zero, List.set_cons_succ])) | ((refine schedG_read (v := ?_) ?_ (fun W hW => ?_) ?_); rotate_left; (focus (first | exact wanted_bare rfl _ | exact wanted_yes rfl rfl rfl rfl)); (focus ((try dsimp only at hW); go_simp; (try with_reducible rfl); done)); (try simp only [Act.put, List.setIfInBounds_toArray, List.set_cons_zero, List.set_cons_succ])) | ((refine schedG_skip ?_ ?_); (focus exact wanted_no rfl rfl rfl rfl); (try simp only [Act.put, List.setIfInBounds_toArray, List.set_cons_zero, List.set_cons_succ]))))
          refine schedG_last ?_ (fun K hK => ?_)
          (focus (first | exact wanted_bare rfl _ | exact wanted_yes rfl rfl rfl rfl))
          go_simp
          refine hK _ _ ?_
          clear hK K
          refine schedG_end ?_
          obtain ⟨y0, y1, -⟩ := HFZ.out
          clear HF HY HBY hb7 HKN
          go_wp2_with fail
          go_roundg (R.length - (0 + 1))
          case measure => omega
          case rel => exact ⟨0 + 1, C + e.is.c, by omega, rfl, by go_num, rfl, Lib.hid ⟨by rw [HC1.out], HBZ.out⟩⟩

      · have htk : R.take k = R := List.take_of_length_le (by omega)
        have hC := HR.out.1
        rw [htk] at hC
        have HKE := Lib.hid (HK.out 0 1048575 wr (HX6.out.later HR.out.2))
        have hall := HRA.out.all
        rw [hC] at hall
        obtain ⟨Q, hQ⟩ : ∃ Q, knownF pts (nameF n) 0 1048575 = Q := ⟨_, rfl⟩
        rw [hQ] at HKE hall
        subst hall
        have HKE := Lib.hid (show Calls Tryd.prog 23 #[.slice pa pts.length pc, .string (nameF n), .int .i64 0, .int .i64 1048575] wr fun x w' => x = .returned (.agg #[.int .i64 Q.c, .int .i64 Q.s, .int .i64 Q.mi, .int .i64 Q.ma, .int .i64 Q.t, .int .i64 Q.l]) ∧ Below wr.heap.size wr w' from HKE.out)
        have HBE := Lib.hid HR.out.2
        have hfd := fld_count Q
        clear hC htk hQ HR
        go_wp2_with (go_at_call 23; (with_reducible refine HKE.out.mono ?_); rintro x w7 ⟨rfl, hb7⟩)
        go_ret
        exact ⟨ret_bool (by simp), Below.trans' (Below.trans' HW.out HBE.out HW.out.size) hb7 (by have := HW.out.size; have := HBE.out.size; omega)⟩
  · have hd : decide (0 ≤ placeI b.names (nameF n)) = false := decide_eq_false fun hh => hs (place_nonneg.1 hh)
    rw [hd] at HCO
    obtain ⟨S, hS⟩ : ∃ S, szOf q = S := ⟨_, rfl⟩
    rw [hS] at hbd
    obtain ⟨e1, e1'⟩ := kb_rows_none (n := S) (a := 0) (z := 1048575) hkb hs
    obtain ⟨e2, e2'⟩ := kb_rows_none (n := S + 1) (a := 0) (z := 1) hkb hs
    have HR1 := Lib.hid fun W hx => (by have := HRW.out S 1048575 W hx; rw [e1, e1'] at this; exact this : Calls Tryd.prog 21 #[.agg (baCells sa b.names.length sc g0 l0 p0 g1 l1 p1 g2 l2 p2 b), .string (nameF n), .int .i64 S, .int .i64 0, .int .i64 1048575] W (RowsPost W.heap.size W [] 6))
    have HR2 := Lib.hid fun W hx => (by have := HRW.out (S + 1) 1 W hx; rw [e2, e2'] at this; exact this : Calls Tryd.prog 21 #[.agg (baCells sa b.names.length sc g0 l0 p0 g1 l1 p1 g2 l2 p2 b), .string (nameF n), .int .i64 (S + 1), .int .i64 0, .int .i64 1] W (RowsPost W.heap.size W [] 6))
    have hwS : IntKind.i64.wrap (S + 1) = S + 1 := IntWalk.i64_in _ (by omega)
    have HSQ := Lib.hid hS
    clear hW1 hb1 hb1' hbx hat hown hkb heq htb hsm hpo hpe hs e1 e2 e1' e2' hd hS HKB HHK HRW HK
    go_upto_region 3 with (go_at_call 19; (with_reducible refine (HN.out _).mono ?_); rintro e w2 ⟨rfl, hb2⟩)
    have HX2 := Lib.hid (HX1.out.later hb2)
    clear hb2
    have hix := fun w' => idx_int (ab := w2.heap.size) (aoff := 0) (n := 3) (cap := 3) (show (q : Int) = ((q : Nat) : Int) by rfl) hq w'
    have HX2' := Lib.hid (HX2.out.later (show Below w2.heap.size w2 (w2.alloc (.cells #[.int .i64 1, .int .i64 60, .int .i64 3600] 3)) from belowAuto))
    go_upto_region 4 with (go_at_call 20; (with_reducible refine (HPW.out _).mono ?_); rintro e w3 ⟨rfl, hb3⟩; have HX3 := Lib.hid (HX2'.out.later hb3); obtain ⟨kq⟩ : Nonempty (w3.cell? ⟨w2.heap.size, q, none⟩ = some (.int .i64 S)) := ⟨(by
      have k3 : w3.heap[w2.heap.size]? = some (.cells #[.int .i64 1, .int .i64 60, .int .i64 3600] 3) := (hb3.block _ (by simp)).trans (heap_new _ _ rfl)
      rw [← HSQ.out]
      obtain rfl | rfl | rfl : q = 0 ∨ q = 1 ∨ q = 2 := by omega
      all_goals simp [World.cell?, k3, szOf])⟩; clear hb3)
    obtain ⟨c0, c1, c2, c3, c4, c5, c6, c7⟩ := HX3.out.bx.cells
    clear kq hix
    go_upto_region 5 with (go_at_call 21; (with_reducible refine (HR1.out _ HX3.out).mono ?_); rintro e w4 ⟨hb4, rv, rfl, hrow⟩; have HX4 := Lib.hid (HX3.out.later hb4); obtain ⟨ra, rc, rfl⟩ := hrow.isSlice; obtain ⟨c0, c1, c2, c3, c4, c5, c6, c7⟩ := HX4.out.bx.cells; clear hb4 hrow)
    go_upto_region 6 with (go_at_call 21; (with_reducible refine (HR2.out _ HX4.out).mono ?_); rintro e w5 ⟨hb5, rv2, rfl, hrow2⟩; have HX5 := Lib.hid (HX4.out.later hb5); obtain ⟨ra2, rc2, rfl⟩ := hrow2.isSlice; have d0 := HX5.out.bx.cells.1; clear hb5 hrow2)
    go_wp2_with (go_at_call 22; (with_reducible refine (HCO.out _ HX5.out).mono ?_); rintro e w6 ⟨rfl, hb6⟩; have HX6 := Lib.hid (HX5.out.later hb6))
    go_ret
    exact ⟨ret_bool (by simp), HX6.out.below⟩
end Go.Proofs.YtalnnghnipoogaaDoor
