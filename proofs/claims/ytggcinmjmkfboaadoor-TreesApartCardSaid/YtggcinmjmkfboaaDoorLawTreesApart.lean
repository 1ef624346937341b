/- The law TreesApart: what is put at one key changes no other one. -/
import Derived.Test.YtggcinmjmkfboaaDoorKT
import Derived.Test.YtggcinmjmkfboaaDoorTells
namespace Go.Proofs.YtggcinmjmkfboaaDoor
open Go.RowKit

set_option maxRecDepth 100000 in
set_option maxHeartbeats 4000000 in
theorem treesApart_any {v : Value} {xs : List Rw} {r : Rw} {other : Int} {w : World} (h : RwsAt w v xs) (hx : ∀ a ∈ xs, a.ok) (hr : r.ok) (ho : -9223372036854775808 ≤ other ∧ other ≤ 9223372036854775807) (hsz : SizesAt w) :
    Calls Tryd.prog 4 #[v, .agg #[.int .i64 r.k, .int .i64 r.a, .int .i64 r.b, .int .i64 r.c], .int .i64 other] w fun e w' => e = .returned (.bool true) ∧ Below w.heap.size w w' := by
  obtain ⟨ao, cap, rfl⟩ := h.isSlice
  obtain ⟨W0, hW0⟩ : ∃ W0, W0 = w.alloc (.cells #[.int .i64 r.k, .int .i64 r.a, .int .i64 r.b, .int .i64 r.c] 23) := ⟨_, rfl⟩
  have hb0 : Below w.heap.size w W0 := by rw [hW0]; exact (by repeat (first | with_reducible exact Below.refl _ _ | with_reducible assumption | with_reducible refine below_dn ?_ _ | with_reducible refine Below.drew ?_ | with_reducible refine Below.alloc ?_ (by first | omega | (simp; done) | (simp; omega) | (simp [drew_size]; done) | (simp [drew_size]; omega)) _ | with_reducible refine Below.setCell ?_ (by first | omega | (simp; done) | (simp; omega) | (simp [drew_size]; done) | (simp [drew_size]; omega)) _))
  have hz0 : W0.heap.size = w.heap.size + 1 := by rw [hW0]; simp
  have k0 : W0.heap[w.heap.size]? = some (.cells #[.int .i64 r.k, .int .i64 r.a, .int .i64 r.b, .int .i64 r.c] 23) := by rw [hW0]; exact heap_new _ _ rfl
  have HT := Lib.hid (tells_any (hsz.below hb0))
  have HKT := Lib.hid fun W (hb : Below w.heap.size w W) => kTree_any (many := 60) (h.below hb (Nat.le_refl _)) hx (by decide)
  obtain ⟨R, hR⟩ : ∃ R, rollupF r.a r.b r.c = R := ⟨_, rfl⟩
  have hRok := rollupF_ok r.a r.b r.c
  rw [hR] at hRok
  have HRU := Lib.hid fun W => rollup_fix hr hR W
  obtain ⟨P, hP⟩ : ∃ P, picked r.k 60 = P := ⟨_, rfl⟩
  obtain ⟨Q, hQ⟩ : ∃ Q, picked other 60 = Q := ⟨_, rfl⟩
  have hPr := picked_range (n := r.k) (m := 60) (by decide)
  have hQr := picked_range (n := other) (m := 60) (by decide)
  have HPP := Lib.hid fun W => picked_any2 r.k 60 W hr.1.1 hr.1.2 (by decide) (by decide)
  have HPQ := Lib.hid fun W => picked_any2 other 60 W ho.1 ho.2 (by decide) (by decide)
  rw [hP] at hPr HPP
  rw [hQ] at hQr HPQ
  have HRw := Lib.hid k0
  have HB0 := Lib.hid hb0
  have HF := Lib.hid (And.intro hRok (And.intro hPr hQr))
  clear h hx hsz hr ho hR hRok hP hQ hPr hQr k0 hb0
  go_enter Tryd.func4, Tryd.ntmps4
  go_upto_region 1 with (fail)
  rw [← hW0]
  clear hW0
  go_upto_region 3 with (go_at_call 13; (with_reducible refine HT.out.mono ?_); rintro e w1 ⟨rfl, hb1⟩)
  have HB1 := Lib.hid (Below.trans' HB0.out hb1 HB0.out.size)
  have HR1 := Lib.hid ((hb1.block w.heap.size (by omega)).trans HRw.out)
  have hs1 := hb1.size
  clear hb1
  go_upto_region 4 with (go_at_call 17; (with_reducible refine (HKT.out _ HB1.out).mono ?_); rintro e w2 ⟨hb2, s, n, c, t, mb, E, rfl, hm1, hm2, hkt, hg, hke, hel, hmap⟩)
  obtain ⟨W2, hW2⟩ : ∃ W2, W2 = w2.alloc (.cells #[.slice s n c, .int .i64 t.root] 36) := ⟨_, rfl⟩
  have hb2' : Below w2.heap.size w2 W2 := by rw [hW2]; exact (by repeat (first | with_reducible exact Below.refl _ _ | with_reducible assumption | with_reducible refine below_dn ?_ _ | with_reducible refine Below.drew ?_ | with_reducible refine Below.alloc ?_ (by first | omega | (simp; done) | (simp; omega) | (simp [drew_size]; done) | (simp [drew_size]; omega)) _ | with_reducible refine Below.setCell ?_ (by first | omega | (simp; done) | (simp; omega) | (simp [drew_size]; done) | (simp [drew_size]; omega)) _))
  have k2 : W2.heap[w2.heap.size]? = some (.cells #[.slice s n c, .int .i64 t.root] 36) := by rw [hW2]; exact heap_new _ _ rfl
  have hs2 := hb2.size
  have hz2 : W2.heap.size = w2.heap.size + 1 := by rw [hW2]; simp
  have HB2 := Lib.hid (Below.trans' (Below.trans' HB1.out hb2 (by omega)) hb2' (by omega))
  have r2 := (hb2'.block w.heap.size (by omega)).trans ((hb2.block w.heap.size (by omega)).trans HR1.out)
  have HX := Lib.hid fun W (hb : Below W2.heap.size W2 W) => (show W.cell? ⟨w.heap.size, 0, none⟩ = some (.int .i64 r.k) ∧ W.cell? ⟨w.heap.size, 1, none⟩ = some (.int .i64 r.a) ∧ W.cell? ⟨w.heap.size, 2, none⟩ = some (.int .i64 r.b) ∧ W.cell? ⟨w.heap.size, 3, none⟩ = some (.int .i64 r.c) ∧ W.cell? ⟨w2.heap.size, 0, none⟩ = some (.slice s n c) ∧ W.cell? ⟨w2.heap.size, 1, none⟩ = some (.int .i64 t.root) from by
    have a1 := (hb.block w.heap.size (by omega)).trans r2
    have a2 := (hb.block w2.heap.size (by omega)).trans k2
    simp [World.cell?, a1, a2])
  have HTR := Lib.hid fun W (hb : Below W2.heap.size W2 W) => hkt W (Keep.of (Below.trans' hb2' hb (by omega)) (Nat.le_refl _))
  have HM := Lib.hid fun W (hb : Below W2.heap.size W2 W) => (hmap.block ((hb.block mb (by omega)).trans (hb2'.block mb hm2)))
  have HPM := Lib.hid fun W (hb : Below W2.heap.size W2 W) => put_more (HTR.out W hb) hg hke hel HF.out.1.1 HF.out.1.2.1 HF.out.1.2.2 HF.out.2.1.1 HF.out.2.1.2 (by decide)
  have HG := Lib.hid (And.intro hg (hke.small (by omega)))
  obtain ⟨x0, x1, x2, x3, x4, x5⟩ := HX.out _ (Below.refl _ _)
  rw [← hW2]
  clear hW2 hb2 hb2' k2 r2 hkt hg hke hel hmap hm1 hm2 HKT HT
  go_upto_region 5 with (go_at_call 18; (with_reducible refine (HPP.out _).mono ?_); rintro e w3 ⟨rfl, hb3⟩)
  clear x0 x1 x2 x3 x4 x5
  go_upto_region 6 with (go_at_call 18; (with_reducible refine (HPQ.out _).mono ?_); rintro e w4 ⟨rfl, hb4⟩)
  have hb4 := Below.trans' hb3 hb4 hb3.size
  obtain ⟨x0, x1, x2, x3, x4, x5⟩ := HX.out _ hb4
  have HB4 := Lib.hid hb4
  have hsw := hb4.size
  clear hb3 hb4
  go_cut [11, 12] (fun p e wx => ∃ (tb : Nat) (so : Option Addr) (n6 c6 : Nat) (u : Tr), p = .pointer (some ⟨tb, 0, none⟩) ∧ e = .int .i64 0 ∧ Hid (Below W2.heap.size W2 wx ∧ W2.heap.size ≤ tb ∧ wx.heap[tb]? = some (.cells #[.slice so n6 c6, .int .i64 u.root] 36) ∧ (∀ w'', Below wx.heap.size wx w'' → TreeAt w'' (.agg #[.slice so n6 c6, .int .i64 u.root]) u) ∧ Grown (⟨P, R⟩ :: E) u ∧ Small (⟨P, R⟩ :: E)))
  case first =>
    refine wp_region_fork (Sch.of [(0, 0), (1, 1), (2, 0)] (.fork 3 8 (.fork 4 8 (Sch.of [(5, 1), (6, 1), (7, 1)] (Sch.of [(8, 2), (9, 3), (10, 1)] .nil)) (Sch.of [(4, 2), (5, 1), (6, 1), (7, 1), (9, 3), (10, 1)] .nil)) (Sch.of [(3, 2), (4, 2), (5, 1), (6, 1), (7, 1), (9, 3), (10, 1)] .nil))) 9
      (fun W => W.cell? ⟨w.heap.size, 0, none⟩ = some (.int .i64 r.k) ∧ W.cell? ⟨w.heap.size, 1, none⟩ = some (.int .i64 r.a) ∧ W.cell? ⟨w.heap.size, 2, none⟩ = some (.int .i64 r.b) ∧ W.cell? ⟨w.heap.size, 3, none⟩ = some (.int .i64 r.c) ∧ W.cell? ⟨w2.heap.size, 0, none⟩ = some (.slice s n c) ∧ W.cell? ⟨w2.heap.size, 1, none⟩ = some (.int .i64 t.root)) (by kernel_rfl) (by kernel_rfl) ⟨x0, x1, x2, x3, x4, x5⟩ ?_
    simp only [Sch.of]
    have B_w4 : Below W2.heap.size W2 w4.drew := HB4.out.drew
    have KP := Lib.hid trivial
    clear x0 x1 x2 x3 x4 x5
    (repeat (first | ((refine fork_pure (v := ?_) rfl rfl (fun W => ?_) ?_); rotate_left; focus (go_simp; (try with_reducible rfl); done); (try simp only [Act.put, List.setIfInBounds_toArray, List.set_cons_zero, List.set_cons_succ])) | ((refine fork_read (v := ?_) rfl rfl (fun W hW => ?_) ?_); rotate_left; focus ((try dsimp only at hW); go_simp; (try with_reducible rfl); done); (try simp only [Act.put, List.setIfInBounds_toArray, List.set_cons_zero, List.set_cons_succ]))))
    refine fork_both rfl rfl rfl rfl (fun K hK => ?_) (fun K hK => ?_)
    · skip
      go_simp
      (with_reducible refine (HRU.out _).mono ?_)
      rintro e w5 ⟨rfl, hb_w5⟩
      go_simp
      have B_w5 : Below W2.heap.size W2 w5 := Below.trans' B_w4 hb_w5 B_w4.size
      try (have KT := (hb_w5.block tb (by have := (Array.getElem?_eq_some_iff.1 KT).1; omega)).trans KT)
      refine hK _ _ (HX.out _ B_w5) ?_
      clear hK K
      (repeat (first | ((refine fork_pure (v := ?_) rfl rfl (fun W => ?_) ?_); rotate_left; focus (go_simp; (try with_reducible rfl); done); (try simp only [Act.put, List.setIfInBounds_toArray, List.set_cons_zero, List.set_cons_succ])) | ((refine fork_read (v := ?_) rfl rfl (fun W hW => ?_) ?_); rotate_left; focus ((try dsimp only at hW); go_simp; (try with_reducible rfl); done); (try simp only [Act.put, List.setIfInBounds_toArray, List.set_cons_zero, List.set_cons_succ]))))
      refine fork_both rfl rfl rfl rfl (fun K hK => ?_) (fun K hK => ?_)
      · skip
        go_simp
        have HPT := HPM.out _ B_w5
        try (have htw : tb < w5.heap.size := (Array.getElem?_eq_some_iff.1 KT).1)
        (with_reducible refine HPT.1.mono ?_)
        rintro e w6 ⟨hb_w6, so, n6, c6, u, rfl, hku, hgu⟩
        go_simp
        have B_w6 : Below W2.heap.size W2 w6 := Below.trans' B_w5 hb_w6 B_w5.size
        try (have KT := (hb_w6.block tb (by have := (Array.getElem?_eq_some_iff.1 KT).1; omega)).trans KT)
        have hsu : w5.heap.size ≤ w6.heap.size := hb_w6.size
        replace KP := Lib.hid (And.intro (fun w'' (hs : w6.heap.size ≤ w''.heap.size) (hk : ∀ b, w5.heap.size ≤ b → b < w6.heap.size → w''.heap[b]? = w6.heap[b]?) => hku w'' ⟨hs, hk⟩) (And.intro hgu HPT.2.1))
        clear hku hgu HPT
        refine hK _ _ (HX.out _ B_w6) ?_
        clear hK K
        (repeat (first | ((refine fork_pure (v := ?_) rfl rfl (fun W => ?_) ?_); rotate_left; focus (go_simp; (try with_reducible rfl); done); (try simp only [Act.put, List.setIfInBounds_toArray, List.set_cons_zero, List.set_cons_succ])) | ((refine fork_read (v := ?_) rfl rfl (fun W hW => ?_) ?_); rotate_left; focus ((try dsimp only at hW); go_simp; (try with_reducible rfl); done); (try simp only [Act.put, List.setIfInBounds_toArray, List.set_cons_zero, List.set_cons_succ]))))
        refine fork_does rfl rfl (fun K hK => ?_)
        go_simp
        obtain ⟨W7, hW⟩ : ∃ W', W' = w6.alloc (.cells #[.slice none 0 0, .int .i64 0] 36) := ⟨_, rfl⟩
        have hba : Below w6.heap.size w6 W7 := by rw [hW]; exact (by repeat (first | with_reducible exact Below.refl _ _ | with_reducible assumption | with_reducible refine below_dn ?_ _ | with_reducible refine Below.drew ?_ | with_reducible refine Below.alloc ?_ (by first | omega | (simp; done) | (simp; omega) | (simp [drew_size]; done) | (simp [drew_size]; omega)) _ | with_reducible refine Below.setCell ?_ (by first | omega | (simp; done) | (simp; omega) | (simp [drew_size]; done) | (simp [drew_size]; omega)) _))
        have B_W7 : Below W2.heap.size W2 W7 := Below.trans' B_w6 hba (by have := B_w6.size; exact this)
        have KT : W7.heap[w6.heap.size]? = some (.cells #[.slice none 0 0, .int .i64 0] 36) := by rw [hW]; exact heap_new _ _ rfl
        rw [← hW]
        have HBA := Lib.hid hba
        obtain ⟨tb, htb⟩ : ∃ tb, w6.heap.size = tb := ⟨_, rfl⟩
        have hlo : W2.heap.size ≤ tb := by rw [← htb]; exact B_w6.size
        rw [htb] at KT ⊢
        have KT0 := Lib.hid KT
        refine hK _ _ (HX.out _ B_W7) ?_
        clear hK K
        clear hW hba
        (repeat (first | ((refine fork_pure (v := ?_) rfl rfl (fun W => ?_) ?_); rotate_left; focus (go_simp; (try with_reducible rfl); done); (try simp only [Act.put, List.setIfInBounds_toArray, List.set_cons_zero, List.set_cons_succ])) | ((refine fork_read (v := ?_) rfl rfl (fun W hW => ?_) ?_); rotate_left; focus ((try dsimp only at hW); go_simp; (try with_reducible rfl); done); (try simp only [Act.put, List.setIfInBounds_toArray, List.set_cons_zero, List.set_cons_succ]))))
        obtain ⟨c0, c1, cf⟩ : W7.cell? ⟨tb, 0, none⟩ = some (.slice none 0 0) ∧ W7.cell? ⟨tb, 1, none⟩ = some (.int .i64 0) ∧ ∀ o, W7.frozen? ⟨tb, o, none⟩ = false := by simp [World.cell?, World.frozen?, KT]
        have HKT := Lib.hid KT
        clear KT
        refine fork_last rfl rfl (fun K hK => ?_)
        go_simp
        refine hK _ _ ?_
        clear hK K
        (repeat (first | ((refine fork_pure (v := ?_) rfl rfl (fun W => ?_) ?_); rotate_left; focus (go_simp; (try with_reducible rfl); done); (try simp only [Act.put, List.setIfInBounds_toArray, List.set_cons_zero, List.set_cons_succ])) | ((refine fork_read (v := ?_) rfl rfl (fun W hW => ?_) ?_); rotate_left; focus ((try dsimp only at hW); go_simp; (try with_reducible rfl); done); (try simp only [Act.put, List.setIfInBounds_toArray, List.set_cons_zero, List.set_cons_succ]))))
        refine fork_end ?_
        go_wp2_with fail
        go_meet
        have hbx := (B_W7.setCell (p := ⟨tb, 0, none⟩) hlo (.slice so n6 c6)).setCell (p := ⟨tb, 1, none⟩) hlo (.int .i64 u.root)
        refine ⟨tb, so, n6, c6, u, rfl, rfl, Lib.hid ⟨hbx, hlo, box_tree HKT.out, fun w'' hb => KP.out.1 w'' ?_ fun b b1 b2 => ?_, KP.out.2⟩⟩
        · have h1 := hb.size
          simp only [heap_setCell_size] at h1
          first | omega | (have h2 := HBA.out.size; omega)
        · have h3 : b ≠ tb := by omega
          refine (hb.block b (by simp only [heap_setCell_size]; first | omega | (have h2 := HBA.out.size; omega))).trans ((heap_setCell_other _ ⟨tb, _, none⟩ b _ h3).trans ((heap_setCell_other _ ⟨tb, _, none⟩ b _ h3).trans ?_))
          first | rfl | exact HBA.out.block b (by omega)
      · skip
        go_simp
        obtain ⟨W6, hW⟩ : ∃ W', W' = w5.alloc (.cells #[.slice none 0 0, .int .i64 0] 36) := ⟨_, rfl⟩
        have hba : Below w5.heap.size w5 W6 := by rw [hW]; exact (by repeat (first | with_reducible exact Below.refl _ _ | with_reducible assumption | with_reducible refine below_dn ?_ _ | with_reducible refine Below.drew ?_ | with_reducible refine Below.alloc ?_ (by first | omega | (simp; done) | (simp; omega) | (simp [drew_size]; done) | (simp [drew_size]; omega)) _ | with_reducible refine Below.setCell ?_ (by first | omega | (simp; done) | (simp; omega) | (simp [drew_size]; done) | (simp [drew_size]; omega)) _))
        have B_W6 : Below W2.heap.size W2 W6 := Below.trans' B_w5 hba (by have := B_w5.size; exact this)
        have KT : W6.heap[w5.heap.size]? = some (.cells #[.slice none 0 0, .int .i64 0] 36) := by rw [hW]; exact heap_new _ _ rfl
        rw [← hW]
        have HBA := Lib.hid hba
        obtain ⟨tb, htb⟩ : ∃ tb, w5.heap.size = tb := ⟨_, rfl⟩
        have hlo : W2.heap.size ≤ tb := by rw [← htb]; exact B_w5.size
        rw [htb] at KT ⊢
        have KT0 := Lib.hid KT
        refine hK _ _ (HX.out _ B_W6) ?_
        clear hK K
        clear hW hba
        (repeat (first | ((refine fork_pure (v := ?_) rfl rfl (fun W => ?_) ?_); rotate_left; focus (go_simp; (try with_reducible rfl); done); (try simp only [Act.put, List.setIfInBounds_toArray, List.set_cons_zero, List.set_cons_succ])) | ((refine fork_read (v := ?_) rfl rfl (fun W hW => ?_) ?_); rotate_left; focus ((try dsimp only at hW); go_simp; (try with_reducible rfl); done); (try simp only [Act.put, List.setIfInBounds_toArray, List.set_cons_zero, List.set_cons_succ]))))
        refine fork_does rfl rfl (fun K hK => ?_)
        go_simp
        have HPT := HPM.out _ B_W6
        try (have htw : tb < W6.heap.size := (Array.getElem?_eq_some_iff.1 KT).1)
        (with_reducible refine HPT.1.mono ?_)
        rintro e w7 ⟨hb_w7, so, n6, c6, u, rfl, hku, hgu⟩
        go_simp
        have B_w7 : Below W2.heap.size W2 w7 := Below.trans' B_W6 hb_w7 B_W6.size
        try (have KT := (hb_w7.block tb (by have := (Array.getElem?_eq_some_iff.1 KT).1; omega)).trans KT)
        have hsu : W6.heap.size ≤ w7.heap.size := hb_w7.size
        replace KP := Lib.hid (And.intro (fun w'' (hs : w7.heap.size ≤ w''.heap.size) (hk : ∀ b, W6.heap.size ≤ b → b < w7.heap.size → w''.heap[b]? = w7.heap[b]?) => hku w'' ⟨hs, hk⟩) (And.intro hgu HPT.2.1))
        clear hku hgu HPT
        refine hK _ _ (HX.out _ B_w7) ?_
        clear hK K
        (repeat (first | ((refine fork_pure (v := ?_) rfl rfl (fun W => ?_) ?_); rotate_left; focus (go_simp; (try with_reducible rfl); done); (try simp only [Act.put, List.setIfInBounds_toArray, List.set_cons_zero, List.set_cons_succ])) | ((refine fork_read (v := ?_) rfl rfl (fun W hW => ?_) ?_); rotate_left; focus ((try dsimp only at hW); go_simp; (try with_reducible rfl); done); (try simp only [Act.put, List.setIfInBounds_toArray, List.set_cons_zero, List.set_cons_succ]))))
        obtain ⟨c0, c1, cf⟩ : w7.cell? ⟨tb, 0, none⟩ = some (.slice none 0 0) ∧ w7.cell? ⟨tb, 1, none⟩ = some (.int .i64 0) ∧ ∀ o, w7.frozen? ⟨tb, o, none⟩ = false := by simp [World.cell?, World.frozen?, KT]
        have HKT := Lib.hid KT
        clear KT
        refine fork_last rfl rfl (fun K hK => ?_)
        go_simp
        refine hK _ _ ?_
        clear hK K
        (repeat (first | ((refine fork_pure (v := ?_) rfl rfl (fun W => ?_) ?_); rotate_left; focus (go_simp; (try with_reducible rfl); done); (try simp only [Act.put, List.setIfInBounds_toArray, List.set_cons_zero, List.set_cons_succ])) | ((refine fork_read (v := ?_) rfl rfl (fun W hW => ?_) ?_); rotate_left; focus ((try dsimp only at hW); go_simp; (try with_reducible rfl); done); (try simp only [Act.put, List.setIfInBounds_toArray, List.set_cons_zero, List.set_cons_succ]))))
        refine fork_end ?_
        go_wp2_with fail
        go_meet
        have hbx := (B_w7.setCell (p := ⟨tb, 0, none⟩) hlo (.slice so n6 c6)).setCell (p := ⟨tb, 1, none⟩) hlo (.int .i64 u.root)
        refine ⟨tb, so, n6, c6, u, rfl, rfl, Lib.hid ⟨hbx, hlo, box_tree HKT.out, fun w'' hb => KP.out.1 w'' ?_ fun b b1 b2 => ?_, KP.out.2⟩⟩
        · have h1 := hb.size
          simp only [heap_setCell_size] at h1
          first | omega | (have h2 := HBA.out.size; omega)
        · have h3 : b ≠ tb := by omega
          refine (hb.block b (by simp only [heap_setCell_size]; first | omega | (have h2 := HBA.out.size; omega))).trans ((heap_setCell_other _ ⟨tb, _, none⟩ b _ h3).trans ((heap_setCell_other _ ⟨tb, _, none⟩ b _ h3).trans ?_))
          first | rfl | exact HBA.out.block b (by omega)
    · skip
      go_simp
      obtain ⟨W5, hW⟩ : ∃ W', W' = (w4.alloc (.cells #[.slice none 0 0, .int .i64 0] 36)).drew := ⟨_, rfl⟩
      have hba : Below w4.heap.size w4 W5 := by rw [hW]; exact (by repeat (first | with_reducible exact Below.refl _ _ | with_reducible assumption | with_reducible refine below_dn ?_ _ | with_reducible refine Below.drew ?_ | with_reducible refine Below.alloc ?_ (by first | omega | (simp; done) | (simp; omega) | (simp [drew_size]; done) | (simp [drew_size]; omega)) _ | with_reducible refine Below.setCell ?_ (by first | omega | (simp; done) | (simp; omega) | (simp [drew_size]; done) | (simp [drew_size]; omega)) _))
      have B_W5 : Below W2.heap.size W2 W5 := Below.trans' HB4.out hba (by have := B_w4.size; exact this)
      have KT : W5.heap[w4.heap.size]? = some (.cells #[.slice none 0 0, .int .i64 0] 36) := by rw [hW]; exact heap_new _ _ rfl
      rw [← hW]
      have HBA := Lib.hid hba
      obtain ⟨tb, htb⟩ : ∃ tb, w4.heap.size = tb := ⟨_, rfl⟩
      have hlo : W2.heap.size ≤ tb := by rw [← htb]; exact B_w4.size
      rw [htb] at KT ⊢
      have KT0 := Lib.hid KT
      refine hK _ _ (HX.out _ B_W5) ?_
      clear hK K
      clear hW hba
      (repeat (first | ((refine fork_pure (v := ?_) rfl rfl (fun W => ?_) ?_); rotate_left; focus (go_simp; (try with_reducible rfl); done); (try simp only [Act.put, List.setIfInBounds_toArray, List.set_cons_zero, List.set_cons_succ])) | ((refine fork_read (v := ?_) rfl rfl (fun W hW => ?_) ?_); rotate_left; focus ((try dsimp only at hW); go_simp; (try with_reducible rfl); done); (try simp only [Act.put, List.setIfInBounds_toArray, List.set_cons_zero, List.set_cons_succ]))))
      refine fork_does rfl rfl (fun K hK => ?_)
      go_simp
      (with_reducible refine (HRU.out _).mono ?_)
      rintro e w6 ⟨rfl, hb_w6⟩
      go_simp
      have B_w6 : Below W2.heap.size W2 w6 := Below.trans' B_W5 hb_w6 B_W5.size
      try (have KT := (hb_w6.block tb (by have := (Array.getElem?_eq_some_iff.1 KT).1; omega)).trans KT)
      refine hK _ _ (HX.out _ B_w6) ?_
      clear hK K
      (repeat (first | ((refine fork_pure (v := ?_) rfl rfl (fun W => ?_) ?_); rotate_left; focus (go_simp; (try with_reducible rfl); done); (try simp only [Act.put, List.setIfInBounds_toArray, List.set_cons_zero, List.set_cons_succ])) | ((refine fork_read (v := ?_) rfl rfl (fun W hW => ?_) ?_); rotate_left; focus ((try dsimp only at hW); go_simp; (try with_reducible rfl); done); (try simp only [Act.put, List.setIfInBounds_toArray, List.set_cons_zero, List.set_cons_succ]))))
      refine fork_does rfl rfl (fun K hK => ?_)
      go_simp
      have HPT := HPM.out _ B_w6
      try (have htw : tb < w6.heap.size := (Array.getElem?_eq_some_iff.1 KT).1)
      (with_reducible refine HPT.1.mono ?_)
      rintro e w7 ⟨hb_w7, so, n6, c6, u, rfl, hku, hgu⟩
      go_simp
      have B_w7 : Below W2.heap.size W2 w7 := Below.trans' B_w6 hb_w7 B_w6.size
      try (have KT := (hb_w7.block tb (by have := (Array.getElem?_eq_some_iff.1 KT).1; omega)).trans KT)
      have hsu : w6.heap.size ≤ w7.heap.size := hb_w7.size
      replace KP := Lib.hid (And.intro (fun w'' (hs : w7.heap.size ≤ w''.heap.size) (hk : ∀ b, w6.heap.size ≤ b → b < w7.heap.size → w''.heap[b]? = w7.heap[b]?) => hku w'' ⟨hs, hk⟩) (And.intro hgu HPT.2.1))
      clear hku hgu HPT
      refine hK _ _ (HX.out _ B_w7) ?_
      clear hK K
      (repeat (first | ((refine fork_pure (v := ?_) rfl rfl (fun W => ?_) ?_); rotate_left; focus (go_simp; (try with_reducible rfl); done); (try simp only [Act.put, List.setIfInBounds_toArray, List.set_cons_zero, List.set_cons_succ])) | ((refine fork_read (v := ?_) rfl rfl (fun W hW => ?_) ?_); rotate_left; focus ((try dsimp only at hW); go_simp; (try with_reducible rfl); done); (try simp only [Act.put, List.setIfInBounds_toArray, List.set_cons_zero, List.set_cons_succ]))))
      obtain ⟨c0, c1, cf⟩ : w7.cell? ⟨tb, 0, none⟩ = some (.slice none 0 0) ∧ w7.cell? ⟨tb, 1, none⟩ = some (.int .i64 0) ∧ ∀ o, w7.frozen? ⟨tb, o, none⟩ = false := by simp [World.cell?, World.frozen?, KT]
      have HKT := Lib.hid KT
      clear KT
      refine fork_last rfl rfl (fun K hK => ?_)
      go_simp
      refine hK _ _ ?_
      clear hK K
      (repeat (first | ((refine fork_pure (v := ?_) rfl rfl (fun W => ?_) ?_); rotate_left; focus (go_simp; (try with_reducible rfl); done); (try simp only [Act.put, List.setIfInBounds_toArray, List.set_cons_zero, List.set_cons_succ])) | ((refine fork_read (v := ?_) rfl rfl (fun W hW => ?_) ?_); rotate_left; focus ((try dsimp only at hW); go_simp; (try with_reducible rfl); done); (try simp only [Act.put, List.setIfInBounds_toArray, List.set_cons_zero, List.set_cons_succ]))))
      refine fork_end ?_
      go_wp2_with fail
      go_meet
      have hbx := (B_w7.setCell (p := ⟨tb, 0, none⟩) hlo (.slice so n6 c6)).setCell (p := ⟨tb, 1, none⟩) hlo (.int .i64 u.root)
      refine ⟨tb, so, n6, c6, u, rfl, rfl, Lib.hid ⟨hbx, hlo, box_tree HKT.out, fun w'' hb => KP.out.1 w'' ?_ fun b b1 b2 => ?_, KP.out.2⟩⟩
      · have h1 := hb.size
        simp only [heap_setCell_size] at h1
        first | omega | (have h2 := HBA.out.size; omega)
      · have h3 : b ≠ tb := by omega
        refine (hb.block b (by simp only [heap_setCell_size]; first | omega | (have h2 := HBA.out.size; omega))).trans ((heap_setCell_other _ ⟨tb, _, none⟩ b _ h3).trans ((heap_setCell_other _ ⟨tb, _, none⟩ b _ h3).trans ?_))
        first | rfl | exact HBA.out.block b (by omega)
  case rest =>
    obtain ⟨tb, so, n6, c6, u, rfl, rfl, HC⟩ := hcut
    obtain ⟨hbc, hlo, hbox, hut, hgu, hsm⟩ := HC.out
    obtain ⟨JW, hJW⟩ : ∃ q, look E Q = q := ⟨_, rfl⟩
    obtain ⟨JN, hJN⟩ : ∃ q, look (⟨P, R⟩ :: E) Q = q := ⟨_, rfl⟩
    obtain ⟨J, hJ⟩ : ∃ q, look E P = q := ⟨_, rfl⟩
    obtain ⟨M, hM⟩ : ∃ q, look (⟨P, R⟩ :: E) P = q := ⟨_, rfl⟩
    have hQ1 : 0 ≤ Q ∧ Q < 1099511627776 := by have := HF.out.2.2; omega
    have HG1 := Lib.hid (get_is (HTR.out _ hbc) HG.out.1 HG.out.2 hQ1.1 hQ1.2 hJW)
    have HG2 := Lib.hid fun W hb => get_is (hut W hb) hgu hsm hQ1.1 hQ1.2 hJN
    have hmg := (HPM.out _ hbc).2.2
    rw [hJ, hM] at hmg
    have HMG := Lib.hid fun W => (show Calls Tryd.prog 15 #[.agg #[.int .i64 J.c, .int .i64 J.s, .int .i64 J.mi, .int .i64 J.ma, .int .i64 J.t, .int .i64 J.l], .agg #[.int .i64 R.c, .int .i64 R.s, .int .i64 R.mi, .int .i64 R.ma, .int .i64 R.t, .int .i64 R.l]] W fun e w' => e = .returned (.tuple #[.agg #[.int .i64 M.c, .int .i64 M.s, .int .i64 M.mi, .int .i64 M.ma, .int .i64 M.t, .int .i64 M.l], .int .i64 0]) ∧ Below W.heap.size W w' by
      have := merge_any J R W
      rw [hmg] at this
      exact this)
    have HQP := Lib.hid (show Q = P → JN = M from fun e => by subst e; rw [← hJN, ← hM])
    have HQN := Lib.hid (show Q ≠ P → JN = JW from fun e => by rw [← hJN, ← hJW]; show (if P = Q then _ else _) = _; rw [if_neg (fun h => e h.symm)])
    have HLK := Lib.hid fun W (hb : Below W2.heap.size W2 W) => (show (Instr.lookup 37 (.map (some mb)) (.int .i64 P) false).run Tryd.prog W = .ok (.agg #[.int .i64 J.c, .int .i64 J.s, .int .i64 J.mi, .int .i64 J.ma, .int .i64 J.t, .int .i64 J.l]) W by
      have h1 := (HM.out W hb).look (n := P) (by have := HF.out.2.1; unfold i64; omega)
      rw [h1, hJ])
    obtain ⟨-, -, -, -, y4, y5⟩ := HX.out _ hbc
    have hwc := hbc.size
    have HBC := Lib.hid hbc
    have HBX := Lib.hid hbox
    have htl := (Array.getElem?_eq_some_iff.1 hbox).1
    clear hbc hbox hut hgu hsm hJW hJN hJ hM hmg hQ1 x0 x1 x2 x3 x4 x5
    go_upto_region 8 with (go_at_call 20; (with_reducible refine HG1.out.mono ?_); rintro e v6 ⟨rfl, hb6⟩)
    obtain ⟨V6, hV6⟩ : ∃ W', W' = v6.alloc (.cells #[.int .i64 JW.c, .int .i64 JW.s, .int .i64 JW.mi, .int .i64 JW.ma, .int .i64 JW.t, .int .i64 JW.l] 26) := ⟨_, rfl⟩
    have hb6' : Below v6.heap.size v6 V6 := by rw [hV6]; exact (by repeat (first | with_reducible exact Below.refl _ _ | with_reducible assumption | with_reducible refine below_dn ?_ _ | with_reducible refine Below.drew ?_ | with_reducible refine Below.alloc ?_ (by first | omega | (simp; done) | (simp; omega) | (simp [drew_size]; done) | (simp [drew_size]; omega)) _ | with_reducible refine Below.setCell ?_ (by first | omega | (simp; done) | (simp; omega) | (simp [drew_size]; done) | (simp [drew_size]; omega)) _))
    have q6 : BoxAt V6 v6.heap.size JW := by rw [hV6]; exact BoxAt.new _ _
    have h67 := Below.trans' hb6 hb6' hb6.size
    have e6 := (h67.block tb htl).trans HBX.out
    have HB6 := Lib.hid h67
    have hs6 := hb6.size
    obtain ⟨y0, y1⟩ : V6.cell? ⟨tb, 0, none⟩ = some (.slice so n6 c6) ∧ V6.cell? ⟨tb, 1, none⟩ = some (.int .i64 u.root) := by simp [World.cell?, e6]
    have HQ6 := Lib.hid q6
    have HG2' := Lib.hid (HG2.out V6 h67)
    rw [← hV6]
    clear hV6 hb6 hb6' q6 h67 e6 y4 y5 HG2
    go_upto_region 9 with (go_at_call 20; (with_reducible refine HG2'.out.mono ?_); rintro e v7 ⟨rfl, hb7⟩)
    obtain ⟨V7, hV7⟩ : ∃ W', W' = v7.alloc (.cells #[.int .i64 JN.c, .int .i64 JN.s, .int .i64 JN.mi, .int .i64 JN.ma, .int .i64 JN.t, .int .i64 JN.l] 26) := ⟨_, rfl⟩
    have hb7' : Below v7.heap.size v7 V7 := by rw [hV7]; exact (by repeat (first | with_reducible exact Below.refl _ _ | with_reducible assumption | with_reducible refine below_dn ?_ _ | with_reducible refine Below.drew ?_ | with_reducible refine Below.alloc ?_ (by first | omega | (simp; done) | (simp; omega) | (simp [drew_size]; done) | (simp [drew_size]; omega)) _ | with_reducible refine Below.setCell ?_ (by first | omega | (simp; done) | (simp; omega) | (simp [drew_size]; done) | (simp [drew_size]; omega)) _))
    have q7 : BoxAt V7 v7.heap.size JN := by rw [hV7]; exact BoxAt.new _ _
    have h77 := Below.trans' hb7 hb7' hb7.size
    have HQ7 := Lib.hid (And.intro (HQ6.out.later h77) q7)
    have HB7 := Lib.hid (Below.trans' (Below.trans' HBC.out HB6.out hwc) h77 (by have := HB6.out.size; omega))
    rw [← hV7]
    clear hV7 hb7 hb7' q7 h77 y0 y1
    have HX7 := Lib.hid fun W (hb : Below V7.heap.size V7 W) => (show Below W2.heap.size W2 W from Below.trans' HB7.out hb HB7.out.size)
    obtain ⟨x0, x1, x2, x3, -, -⟩ := HX.out _ HB7.out
    have x4 := HLK.out _ HB7.out
    go_cut [17, 18] (fun p e wx => ∃ (qb : Nat), p = .pointer (some ⟨qb, 0, none⟩) ∧ e = .int .i64 0 ∧ Hid (Below V7.heap.size V7 wx ∧ BoxAt wx qb M))
    case first =>
      refine wp_region_fork (Sch.of [(0, 1), (1, 1), (2, 0), (3, 0)] (.fork 4 9 (.fork 5 9 (Sch.of [(6, 1), (7, 1), (8, 1)] (Sch.of [(9, 2), (10, 3), (11, 1)] .nil)) (Sch.of [(5, 2), (6, 1), (7, 1), (8, 1), (10, 3), (11, 1)] .nil)) (Sch.of [(4, 2), (5, 2), (6, 1), (7, 1), (8, 1), (10, 3), (11, 1)] .nil))) 10
        (fun W => W.cell? ⟨w.heap.size, 0, none⟩ = some (.int .i64 r.k) ∧ W.cell? ⟨w.heap.size, 1, none⟩ = some (.int .i64 r.a) ∧ W.cell? ⟨w.heap.size, 2, none⟩ = some (.int .i64 r.b) ∧ W.cell? ⟨w.heap.size, 3, none⟩ = some (.int .i64 r.c) ∧ (Instr.lookup 37 (.map (some mb)) (.int .i64 P) false).run Tryd.prog W = .ok (.agg #[.int .i64 J.c, .int .i64 J.s, .int .i64 J.mi, .int .i64 J.ma, .int .i64 J.t, .int .i64 J.l]) W) (by kernel_rfl) (by kernel_rfl) ⟨x0, x1, x2, x3, HLK.out _ (HB7.out.drew)⟩ ?_
      simp only [Sch.of]
      have B_V7 : Below V7.heap.size V7 V7.drew := (Below.refl _ _).drew
      clear x0 x1 x2 x3 x4
      (repeat (first | ((refine fork_pure (v := ?_) rfl rfl (fun W => ?_) ?_); rotate_left; focus (go_simp; (try with_reducible rfl); done); (try simp only [Act.put, List.setIfInBounds_toArray, List.set_cons_zero, List.set_cons_succ])) | ((refine fork_read (v := ?_) rfl rfl (fun W hW => ?_) ?_); rotate_left; focus ((try dsimp only at hW); go_simp; (try with_reducible rfl); done); (try simp only [Act.put, List.setIfInBounds_toArray, List.set_cons_zero, List.set_cons_succ]))))
      refine fork_both rfl rfl rfl rfl (fun K hK => ?_) (fun K hK => ?_)
      · skip
        go_simp
        (with_reducible refine (HRU.out _).mono ?_)
        rintro e w8 ⟨rfl, hb_w8⟩
        go_simp
        have B_w8 : Below V7.heap.size V7 w8 := Below.trans' B_V7 hb_w8 B_V7.size
        try (have KT := (hb_w8.block qb (by have := (Array.getElem?_eq_some_iff.1 KT).1; omega)).trans KT)
        refine hK _ _ (by have hb := HX7.out _ B_w8; have h := HX.out _ hb; exact ⟨h.1, h.2.1, h.2.2.1, h.2.2.2.1, HLK.out _ hb⟩) ?_
        clear hK K
        (repeat (first | ((refine fork_pure (v := ?_) rfl rfl (fun W => ?_) ?_); rotate_left; focus (go_simp; (try with_reducible rfl); done); (try simp only [Act.put, List.setIfInBounds_toArray, List.set_cons_zero, List.set_cons_succ])) | ((refine fork_read (v := ?_) rfl rfl (fun W hW => ?_) ?_); rotate_left; focus ((try dsimp only at hW); go_simp; (try with_reducible rfl); done); (try simp only [Act.put, List.setIfInBounds_toArray, List.set_cons_zero, List.set_cons_succ]))))
        refine fork_both rfl rfl rfl rfl (fun K hK => ?_) (fun K hK => ?_)
        · skip
          go_simp
          (with_reducible refine (HMG.out _).mono ?_)
          rintro e w9 ⟨rfl, hb_w9⟩
          go_simp
          have B_w9 : Below V7.heap.size V7 w9 := Below.trans' B_w8 hb_w9 B_w8.size
          try (have KT := (hb_w9.block qb (by have := (Array.getElem?_eq_some_iff.1 KT).1; omega)).trans KT)
          refine hK _ _ (by have hb := HX7.out _ B_w9; have h := HX.out _ hb; exact ⟨h.1, h.2.1, h.2.2.1, h.2.2.2.1, HLK.out _ hb⟩) ?_
          clear hK K
          (repeat (first | ((refine fork_pure (v := ?_) rfl rfl (fun W => ?_) ?_); rotate_left; focus (go_simp; (try with_reducible rfl); done); (try simp only [Act.put, List.setIfInBounds_toArray, List.set_cons_zero, List.set_cons_succ])) | ((refine fork_read (v := ?_) rfl rfl (fun W hW => ?_) ?_); rotate_left; focus ((try dsimp only at hW); go_simp; (try with_reducible rfl); done); (try simp only [Act.put, List.setIfInBounds_toArray, List.set_cons_zero, List.set_cons_succ]))))
          refine fork_does rfl rfl (fun K hK => ?_)
          go_simp
          obtain ⟨W10, hW⟩ : ∃ W', W' = w9.alloc (.cells #[.int .i64 0, .int .i64 0, .int .i64 0, .int .i64 0, .int .i64 0, .int .i64 0] 26) := ⟨_, rfl⟩
          have hba : Below w9.heap.size w9 W10 := by rw [hW]; exact (by repeat (first | with_reducible exact Below.refl _ _ | with_reducible assumption | with_reducible refine below_dn ?_ _ | with_reducible refine Below.drew ?_ | with_reducible refine Below.alloc ?_ (by first | omega | (simp; done) | (simp; omega) | (simp [drew_size]; done) | (simp [drew_size]; omega)) _ | with_reducible refine Below.setCell ?_ (by first | omega | (simp; done) | (simp; omega) | (simp [drew_size]; done) | (simp [drew_size]; omega)) _))
          have B_W10 : Below V7.heap.size V7 W10 := Below.trans' B_w9 hba (by have := B_w9.size; exact this)
          have KT : W10.heap[w9.heap.size]? = some (.cells #[.int .i64 0, .int .i64 0, .int .i64 0, .int .i64 0, .int .i64 0, .int .i64 0] 26) := by rw [hW]; exact heap_new _ _ rfl
          rw [← hW]
          obtain ⟨qb, hqb⟩ : ∃ qb, w9.heap.size = qb := ⟨_, rfl⟩
          have hlo : V7.heap.size ≤ qb := by rw [← hqb]; exact B_w9.size
          rw [hqb] at KT ⊢
          refine hK _ _ (by have hb := HX7.out _ B_W10; have h := HX.out _ hb; exact ⟨h.1, h.2.1, h.2.2.1, h.2.2.2.1, HLK.out _ hb⟩) ?_
          clear hK K
          clear hW hba hqb
          (repeat (first | ((refine fork_pure (v := ?_) rfl rfl (fun W => ?_) ?_); rotate_left; focus (go_simp; (try with_reducible rfl); done); (try simp only [Act.put, List.setIfInBounds_toArray, List.set_cons_zero, List.set_cons_succ])) | ((refine fork_read (v := ?_) rfl rfl (fun W hW => ?_) ?_); rotate_left; focus ((try dsimp only at hW); go_simp; (try with_reducible rfl); done); (try simp only [Act.put, List.setIfInBounds_toArray, List.set_cons_zero, List.set_cons_succ]))))
          obtain ⟨c0, c1, c2, c3, c4, c5, cf⟩ : W10.cell? ⟨qb, 0, none⟩ = some (.int .i64 0) ∧ W10.cell? ⟨qb, 1, none⟩ = some (.int .i64 0) ∧ W10.cell? ⟨qb, 2, none⟩ = some (.int .i64 0) ∧ W10.cell? ⟨qb, 3, none⟩ = some (.int .i64 0) ∧ W10.cell? ⟨qb, 4, none⟩ = some (.int .i64 0) ∧ W10.cell? ⟨qb, 5, none⟩ = some (.int .i64 0) ∧ ∀ o, W10.frozen? ⟨qb, o, none⟩ = false := by simp [World.cell?, World.frozen?, KT]
          have HKT := Lib.hid KT
          clear KT
          refine fork_last rfl rfl (fun K hK => ?_)
          go_simp
          refine hK _ _ ?_
          clear hK K
          (repeat (first | ((refine fork_pure (v := ?_) rfl rfl (fun W => ?_) ?_); rotate_left; focus (go_simp; (try with_reducible rfl); done); (try simp only [Act.put, List.setIfInBounds_toArray, List.set_cons_zero, List.set_cons_succ])) | ((refine fork_read (v := ?_) rfl rfl (fun W hW => ?_) ?_); rotate_left; focus ((try dsimp only at hW); go_simp; (try with_reducible rfl); done); (try simp only [Act.put, List.setIfInBounds_toArray, List.set_cons_zero, List.set_cons_succ]))))
          refine fork_end ?_
          go_wp2_with fail
          go_meet
          exact ⟨qb, rfl, rfl, Lib.hid ⟨(((((B_W10.setCell hlo _).setCell hlo _).setCell hlo _).setCell hlo _).setCell hlo _).setCell hlo _, ⟨roll_box HKT.out⟩⟩⟩
        · skip
          go_simp
          obtain ⟨W9, hW⟩ : ∃ W', W' = w8.alloc (.cells #[.int .i64 0, .int .i64 0, .int .i64 0, .int .i64 0, .int .i64 0, .int .i64 0] 26) := ⟨_, rfl⟩
          have hba : Below w8.heap.size w8 W9 := by rw [hW]; exact (by repeat (first | with_reducible exact Below.refl _ _ | with_reducible assumption | with_reducible refine below_dn ?_ _ | with_reducible refine Below.drew ?_ | with_reducible refine Below.alloc ?_ (by first | omega | (simp; done) | (simp; omega) | (simp [drew_size]; done) | (simp [drew_size]; omega)) _ | with_reducible refine Below.setCell ?_ (by first | omega | (simp; done) | (simp; omega) | (simp [drew_size]; done) | (simp [drew_size]; omega)) _))
          have B_W9 : Below V7.heap.size V7 W9 := Below.trans' B_w8 hba (by have := B_w8.size; exact this)
          have KT : W9.heap[w8.heap.size]? = some (.cells #[.int .i64 0, .int .i64 0, .int .i64 0, .int .i64 0, .int .i64 0, .int .i64 0] 26) := by rw [hW]; exact heap_new _ _ rfl
          rw [← hW]
          obtain ⟨qb, hqb⟩ : ∃ qb, w8.heap.size = qb := ⟨_, rfl⟩
          have hlo : V7.heap.size ≤ qb := by rw [← hqb]; exact B_w8.size
          rw [hqb] at KT ⊢
          refine hK _ _ (by have hb := HX7.out _ B_W9; have h := HX.out _ hb; exact ⟨h.1, h.2.1, h.2.2.1, h.2.2.2.1, HLK.out _ hb⟩) ?_
          clear hK K
          clear hW hba hqb
          (repeat (first | ((refine fork_pure (v := ?_) rfl rfl (fun W => ?_) ?_); rotate_left; focus (go_simp; (try with_reducible rfl); done); (try simp only [Act.put, List.setIfInBounds_toArray, List.set_cons_zero, List.set_cons_succ])) | ((refine fork_read (v := ?_) rfl rfl (fun W hW => ?_) ?_); rotate_left; focus ((try dsimp only at hW); go_simp; (try with_reducible rfl); done); (try simp only [Act.put, List.setIfInBounds_toArray, List.set_cons_zero, List.set_cons_succ]))))
          refine fork_does rfl rfl (fun K hK => ?_)
          go_simp
          (with_reducible refine (HMG.out _).mono ?_)
          rintro e w10 ⟨rfl, hb_w10⟩
          go_simp
          have B_w10 : Below V7.heap.size V7 w10 := Below.trans' B_W9 hb_w10 B_W9.size
          try (have KT := (hb_w10.block qb (by have := (Array.getElem?_eq_some_iff.1 KT).1; omega)).trans KT)
          refine hK _ _ (by have hb := HX7.out _ B_w10; have h := HX.out _ hb; exact ⟨h.1, h.2.1, h.2.2.1, h.2.2.2.1, HLK.out _ hb⟩) ?_
          clear hK K
          (repeat (first | ((refine fork_pure (v := ?_) rfl rfl (fun W => ?_) ?_); rotate_left; focus (go_simp; (try with_reducible rfl); done); (try simp only [Act.put, List.setIfInBounds_toArray, List.set_cons_zero, List.set_cons_succ])) | ((refine fork_read (v := ?_) rfl rfl (fun W hW => ?_) ?_); rotate_left; focus ((try dsimp only at hW); go_simp; (try with_reducible rfl); done); (try simp only [Act.put, List.setIfInBounds_toArray, List.set_cons_zero, List.set_cons_succ]))))
          obtain ⟨c0, c1, c2, c3, c4, c5, cf⟩ : w10.cell? ⟨qb, 0, none⟩ = some (.int .i64 0) ∧ w10.cell? ⟨qb, 1, none⟩ = some (.int .i64 0) ∧ w10.cell? ⟨qb, 2, none⟩ = some (.int .i64 0) ∧ w10.cell? ⟨qb, 3, none⟩ = some (.int .i64 0) ∧ w10.cell? ⟨qb, 4, none⟩ = some (.int .i64 0) ∧ w10.cell? ⟨qb, 5, none⟩ = some (.int .i64 0) ∧ ∀ o, w10.frozen? ⟨qb, o, none⟩ = false := by simp [World.cell?, World.frozen?, KT]
          have HKT := Lib.hid KT
          clear KT
          refine fork_last rfl rfl (fun K hK => ?_)
          go_simp
          refine hK _ _ ?_
          clear hK K
          (repeat (first | ((refine fork_pure (v := ?_) rfl rfl (fun W => ?_) ?_); rotate_left; focus (go_simp; (try with_reducible rfl); done); (try simp only [Act.put, List.setIfInBounds_toArray, List.set_cons_zero, List.set_cons_succ])) | ((refine fork_read (v := ?_) rfl rfl (fun W hW => ?_) ?_); rotate_left; focus ((try dsimp only at hW); go_simp; (try with_reducible rfl); done); (try simp only [Act.put, List.setIfInBounds_toArray, List.set_cons_zero, List.set_cons_succ]))))
          refine fork_end ?_
          go_wp2_with fail
          go_meet
          exact ⟨qb, rfl, rfl, Lib.hid ⟨(((((B_w10.setCell hlo _).setCell hlo _).setCell hlo _).setCell hlo _).setCell hlo _).setCell hlo _, ⟨roll_box HKT.out⟩⟩⟩
      · skip
        go_simp
        obtain ⟨W8, hW⟩ : ∃ W', W' = (V7.alloc (.cells #[.int .i64 0, .int .i64 0, .int .i64 0, .int .i64 0, .int .i64 0, .int .i64 0] 26)).drew := ⟨_, rfl⟩
        have hba : Below V7.heap.size V7 W8 := by rw [hW]; exact (by repeat (first | with_reducible exact Below.refl _ _ | with_reducible assumption | with_reducible refine below_dn ?_ _ | with_reducible refine Below.drew ?_ | with_reducible refine Below.alloc ?_ (by first | omega | (simp; done) | (simp; omega) | (simp [drew_size]; done) | (simp [drew_size]; omega)) _ | with_reducible refine Below.setCell ?_ (by first | omega | (simp; done) | (simp; omega) | (simp [drew_size]; done) | (simp [drew_size]; omega)) _))
        have B_W8 : Below V7.heap.size V7 W8 := Below.trans' (Below.refl _ _) hba (by have := B_V7.size; exact this)
        have KT : W8.heap[V7.heap.size]? = some (.cells #[.int .i64 0, .int .i64 0, .int .i64 0, .int .i64 0, .int .i64 0, .int .i64 0] 26) := by rw [hW]; exact heap_new _ _ rfl
        rw [← hW]
        obtain ⟨qb, hqb⟩ : ∃ qb, V7.heap.size = qb := ⟨_, rfl⟩
        have hlo : V7.heap.size ≤ qb := by rw [← hqb]; exact B_V7.size
        rw [hqb] at KT ⊢
        refine hK _ _ (by have hb := HX7.out _ B_W8; have h := HX.out _ hb; exact ⟨h.1, h.2.1, h.2.2.1, h.2.2.2.1, HLK.out _ hb⟩) ?_
        clear hK K
        clear hW hba hqb
        (repeat (first | ((refine fork_pure (v := ?_) rfl rfl (fun W => ?_) ?_); rotate_left; focus (go_simp; (try with_reducible rfl); done); (try simp only [Act.put, List.setIfInBounds_toArray, List.set_cons_zero, List.set_cons_succ])) | ((refine fork_read (v := ?_) rfl rfl (fun W hW => ?_) ?_); rotate_left; focus ((try dsimp only at hW); go_simp; (try with_reducible rfl); done); (try simp only [Act.put, List.setIfInBounds_toArray, List.set_cons_zero, List.set_cons_succ]))))
        refine fork_does rfl rfl (fun K hK => ?_)
        go_simp
        (with_reducible refine (HRU.out _).mono ?_)
        rintro e w9 ⟨rfl, hb_w9⟩
        go_simp
        have B_w9 : Below V7.heap.size V7 w9 := Below.trans' B_W8 hb_w9 B_W8.size
        try (have KT := (hb_w9.block qb (by have := (Array.getElem?_eq_some_iff.1 KT).1; omega)).trans KT)
        refine hK _ _ (by have hb := HX7.out _ B_w9; have h := HX.out _ hb; exact ⟨h.1, h.2.1, h.2.2.1, h.2.2.2.1, HLK.out _ hb⟩) ?_
        clear hK K
        (repeat (first | ((refine fork_pure (v := ?_) rfl rfl (fun W => ?_) ?_); rotate_left; focus (go_simp; (try with_reducible rfl); done); (try simp only [Act.put, List.setIfInBounds_toArray, List.set_cons_zero, List.set_cons_succ])) | ((refine fork_read (v := ?_) rfl rfl (fun W hW => ?_) ?_); rotate_left; focus ((try dsimp only at hW); go_simp; (try with_reducible rfl); done); (try simp only [Act.put, List.setIfInBounds_toArray, List.set_cons_zero, List.set_cons_succ]))))
        refine fork_does rfl rfl (fun K hK => ?_)
        go_simp
        (with_reducible refine (HMG.out _).mono ?_)
        rintro e w10 ⟨rfl, hb_w10⟩
        go_simp
        have B_w10 : Below V7.heap.size V7 w10 := Below.trans' B_w9 hb_w10 B_w9.size
        try (have KT := (hb_w10.block qb (by have := (Array.getElem?_eq_some_iff.1 KT).1; omega)).trans KT)
        refine hK _ _ (by have hb := HX7.out _ B_w10; have h := HX.out _ hb; exact ⟨h.1, h.2.1, h.2.2.1, h.2.2.2.1, HLK.out _ hb⟩) ?_
        clear hK K
        (repeat (first | ((refine fork_pure (v := ?_) rfl rfl (fun W => ?_) ?_); rotate_left; focus (go_simp; (try with_reducible rfl); done); (try simp only [Act.put, List.setIfInBounds_toArray, List.set_cons_zero, List.set_cons_succ])) | ((refine fork_read (v := ?_) rfl rfl (fun W hW => ?_) ?_); rotate_left; focus ((try dsimp only at hW); go_simp; (try with_reducible rfl); done); (try simp only [Act.put, List.setIfInBounds_toArray, List.set_cons_zero, List.set_cons_succ]))))
        obtain ⟨c0, c1, c2, c3, c4, c5, cf⟩ : w10.cell? ⟨qb, 0, none⟩ = some (.int .i64 0) ∧ w10.cell? ⟨qb, 1, none⟩ = some (.int .i64 0) ∧ w10.cell? ⟨qb, 2, none⟩ = some (.int .i64 0) ∧ w10.cell? ⟨qb, 3, none⟩ = some (.int .i64 0) ∧ w10.cell? ⟨qb, 4, none⟩ = some (.int .i64 0) ∧ w10.cell? ⟨qb, 5, none⟩ = some (.int .i64 0) ∧ ∀ o, w10.frozen? ⟨qb, o, none⟩ = false := by simp [World.cell?, World.frozen?, KT]
        have HKT := Lib.hid KT
        clear KT
        refine fork_last rfl rfl (fun K hK => ?_)
        go_simp
        refine hK _ _ ?_
        clear hK K
        (repeat (first | ((refine fork_pure (v := ?_) rfl rfl (fun W => ?_) ?_); rotate_left; focus (go_simp; (try with_reducible rfl); done); (try simp only [Act.put, List.setIfInBounds_toArray, List.set_cons_zero, List.set_cons_succ])) | ((refine fork_read (v := ?_) rfl rfl (fun W hW => ?_) ?_); rotate_left; focus ((try dsimp only at hW); go_simp; (try with_reducible rfl); done); (try simp only [Act.put, List.setIfInBounds_toArray, List.set_cons_zero, List.set_cons_succ]))))
        refine fork_end ?_
        go_wp2_with fail
        go_meet
        exact ⟨qb, rfl, rfl, Lib.hid ⟨(((((B_w10.setCell hlo _).setCell hlo _).setCell hlo _).setCell hlo _).setCell hlo _).setCell hlo _, ⟨roll_box HKT.out⟩⟩⟩
    case rest =>
      obtain ⟨qb, rfl, rfl, HE⟩ := hcut
      obtain ⟨hbe, hqe⟩ := HE.out
      obtain ⟨a0, a1, a2, a3, a4, a5⟩ := (HQ7.out.1.later hbe).cells
      obtain ⟨b0, b1, b2, b3, b4, b5⟩ := (HQ7.out.2.later hbe).cells
      obtain ⟨d0, d1, d2, d3, d4, d5⟩ := hqe.cells
      have HBE := Lib.hid (Below.trans' HB2.out (Below.trans' HB7.out hbe HB7.out.size) HB2.out.size)
      clear hbe hqe x0 x1 x2 x3 x4 HG1 HG2' HLK HX HX7 HTR HM HPM
      by_cases hqp : Q = P
      · obtain rfl := HQP.out hqp
        go_wp2
        go_ret
        exact ⟨ret_bool (by simp), HBE.out⟩
      · obtain rfl := HQN.out hqp
        go_wp2
        go_ret
        exact ⟨ret_bool (by simp), HBE.out⟩
end Go.Proofs.YtggcinmjmkfboaaDoor
