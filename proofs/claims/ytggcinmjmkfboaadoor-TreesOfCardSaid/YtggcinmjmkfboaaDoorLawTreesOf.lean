/- The law TreesOf: of what a tree knows another one is made. -/
import Derived.Test.YtggcinmjmkfboaaDoorKT
import Derived.Test.YtggcinmjmkfboaaDoorRev
import Derived.Test.YtggcinmjmkfboaaDoorTells
namespace Go.Proofs.YtggcinmjmkfboaaDoor
open Go.RowKit

set_option maxRecDepth 100000 in
set_option maxHeartbeats 4000000 in
theorem treesOf_any {v : Value} {xs : List Rw} {w : World} (h : RwsAt w v xs) (hx : ∀ a ∈ xs, a.ok) (hsz : SizesAt w) :
    Calls Tryd.prog 6 #[v] w fun e w' => e = .returned (.bool true) ∧ Below w.heap.size w w' := by
  obtain ⟨ao, cap, rfl⟩ := h.isSlice
  have HT := Lib.hid (tells_any hsz)
  have HKT := Lib.hid fun W (hb : Below w.heap.size w W) => kTree_any (many := 150) (h.below hb (Nat.le_refl _)) hx (by decide)
  clear h hx hsz
  go_enter Tryd.func6, Tryd.ntmps6
  go_upto_region 3 with (go_at_call 13; (with_reducible refine HT.out.mono ?_); rintro e w1 ⟨rfl, hb1⟩)
  have HB1 := Lib.hid hb1
  clear hb1
  go_upto_region 4 with (go_at_call 17; (with_reducible refine (HKT.out _ HB1.out).mono ?_); rintro e w2 ⟨hb2, s, n, c, t, mb, E, rfl, hm1, hm2, hkt, hg, hke, hel, hmap⟩)
  obtain ⟨W2, hW2⟩ : ∃ W2, W2 = w2.alloc (.cells #[.slice s n c, .int .i64 t.root] 36) := ⟨_, rfl⟩
  have hb2' : Below w2.heap.size w2 W2 := by rw [hW2]; exact (by repeat (first | with_reducible exact Below.refl _ _ | with_reducible assumption | with_reducible refine below_dn ?_ _ | with_reducible refine Below.drew ?_ | with_reducible refine Below.alloc ?_ (by first | omega | (simp; done) | (simp; omega) | (simp [drew_size]; done) | (simp [drew_size]; omega)) _ | with_reducible refine Below.setCell ?_ (by first | omega | (simp; done) | (simp; omega) | (simp [drew_size]; done) | (simp [drew_size]; omega)) _))
  have k2 : W2.heap[w2.heap.size]? = some (.cells #[.slice s n c, .int .i64 t.root] 36) := by rw [hW2]; exact heap_new _ _ rfl
  have hs2 := hb2.size
  have hsE : Small E := hke.small (by omega)
  have hw1s := HB1.out.size
  have HA := Lib.hid (all_is (hkt W2 (Keep.of hb2' (Nat.le_refl _))) hg.fault (hg.allR hsE))
  have hbok := hg.bag_ok hsE
  have hbr := bag_rising hg.goods
  have hbl : (bag E).length ≤ 150 := Nat.le_trans (bag_len (m := [])) (by simpa using hel)
  have HB2 := Lib.hid (Below.trans' (Below.trans' HB1.out hb2 hw1s) hb2' (by omega))
  obtain ⟨L, hL⟩ : ∃ L, bag E = L := ⟨_, rfl⟩
  rw [hL] at HA hbok hbr hbl
  have HL := Lib.hid (And.intro hbr (And.intro hbok hbl))
  obtain ⟨u0, u1⟩ : W2.cell? ⟨w2.heap.size, 0, none⟩ = some (.slice s n c) ∧ W2.cell? ⟨w2.heap.size, 1, none⟩ = some (.int .i64 t.root) := by simp [World.cell?, k2]
  rw [← hW2]
  clear hW2 hb2 hb2' k2 hkt hg hke hel hmap hm1 hm2 hsE hbok hbr hL HKT HT
  go_upto_region 5 with (go_at_call 24; (with_reducible refine HA.out.mono ?_); rintro e w3 ⟨so, sc, rfl, hb3, ho⟩)
  have HO := Lib.hid ho
  have HOF := Lib.hid (of_is (ho.at (by omega)) (entsE_rising HL.out.1 HL.out.2.1 fun k hk => by cases hk) (by omega))
  have HB3 := Lib.hid (Below.trans' HB2.out hb3 HB2.out.size)
  have hs3 := hb3.size
  have HW3 := Lib.hid hb3
  clear ho hb3 u0 u1
  go_upto_region 6 with (go_at_call 25; (with_reducible refine HOF.out.mono ?_); rintro e w4 ⟨hb4, so4, n4, c4, u, rfl, hku, hmd⟩)
  obtain ⟨W4, hW4⟩ : ∃ W4, W4 = w4.alloc (.cells #[.slice so4 n4 c4, .int .i64 u.root] 36) := ⟨_, rfl⟩
  have hb4' : Below w4.heap.size w4 W4 := by rw [hW4]; exact (by repeat (first | with_reducible exact Below.refl _ _ | with_reducible assumption | with_reducible refine below_dn ?_ _ | with_reducible refine Below.drew ?_ | with_reducible refine Below.alloc ?_ (by first | omega | (simp; done) | (simp; omega) | (simp [drew_size]; done) | (simp [drew_size]; omega)) _ | with_reducible refine Below.setCell ?_ (by first | omega | (simp; done) | (simp; omega) | (simp [drew_size]; done) | (simp [drew_size]; omega)) _))
  have k4 : W4.heap[w4.heap.size]? = some (.cells #[.slice so4 n4 c4, .int .i64 u.root] 36) := by rw [hW4]; exact heap_new _ _ rfl
  have hz4 : W4.heap.size = w4.heap.size + 1 := by rw [hW4]; simp
  have hs4 := hb4.size
  have hkn := hmd.knows
  unfold allT at hkn
  rw [if_pos hmd.1] at hkn
  have HU := Lib.hid (all_is (hku W4 (Keep.of hb4' (Nat.le_refl _))) hmd.1 hkn)
  have HK := Lib.hid (And.intro hku hmd)
  have HB4 := Lib.hid (And.intro hb4 hb4')
  obtain ⟨u0, u1⟩ : W4.cell? ⟨w4.heap.size, 0, none⟩ = some (.slice so4 n4 c4) ∧ W4.cell? ⟨w4.heap.size, 1, none⟩ = some (.int .i64 u.root) := by simp [World.cell?, k4]
  have HK4 := Lib.hid k4
  have HOa := Lib.hid (HO.out.below (Below.trans' hb4 hb4' hb4.size) (Nat.le_refl _))
  rw [← hW4]
  clear hW4 hb4 hb4' k4 hku hmd hkn HOF
  go_upto_region 7 with (go_at_call 24; (with_reducible refine HU.out.mono ?_); rintro e w5 ⟨so5, sc5, rfl, hb5, ho5⟩)
  have HOb := Lib.hid (HOa.out.below hb5 (Nat.le_refl _))
  have HW5 := Lib.hid hb5
  have hs5 := hb5.size
  have HB5 := Lib.hid (Below.trans' (Below.trans' HB3.out HB4.out.1 HB3.out.size) (Below.trans' HB4.out.2 hb5 (by omega)) (by have := HB3.out.size; omega))
  clear ho5 hb5 u0 u1
  by_cases hlen : 1 < L.length
  · have hlen' : (1 : Int) < (L.length : Int) := by omega
    obtain ⟨hrl, ⟨p1, p2⟩ | ⟨g, cap', cur', p1, hBg, pg, -, -, -, -⟩⟩ := HOb.out.row
    · rw [p2] at hlen; simp at hlen
    injection p1 with e1 e2 e3
    subst e1 e3
    clear e2 hrl
    have hg3 := (HO.out.lt g rfl).2
    have HR := Lib.hid (reverse_any HOb.out (by omega) (by omega))
    clear pg
    go_upto_region 10 with (go_at_call 26; (with_reducible refine HR.out.mono ?_); rintro e w6 ⟨rfl, hb6, ho6, hz6, hr6⟩)
    have HBD := Lib.hid (of_bad (E := 8) (hr6.at (by rw [List.length_reverse]; omega)) (entsE_reverse HL.out.1 HL.out.2.1 hlen) (by decide) (by rw [List.length_reverse]; omega))
    have HW6 := Lib.hid (And.intro hb6 ho6)
    clear hb6 ho6 hr6
    go_upto_region 11 with (go_at_call 25; (with_reducible refine HBD.out.mono ?_); rintro e w7 ⟨hb7, rfl⟩)
    have hch : ∀ b, b ≠ g → b < W4.heap.size → w7.heap[b]? = W4.heap[b]? := fun b h1 h2 => (hb7.block b (by omega)).trans ((HW6.out.2 b h1).trans (HW5.out.block b h2))
    have hs7 := hb7.size
    have k7 := (hch w4.heap.size (by omega) (by omega)).trans HK4.out
    obtain ⟨u0, u1⟩ : w7.cell? ⟨w4.heap.size, 0, none⟩ = some (.slice so4 n4 c4) ∧ w7.cell? ⟨w4.heap.size, 1, none⟩ = some (.int .i64 u.root) := by simp [World.cell?, k7]
    have HC := Lib.hid (check_is (HK.out.1 w7 ⟨by omega, fun b b1 b2 => (hch b (by omega) (by omega)).trans (HB4.out.2.block b b2)⟩) HK.out.2.1)
    have HB7 := Lib.hid (Below.trans' (HB5.out.trans (HW6.out.1.mono (by have := HB2.out.size; omega))) hb7 (by have := HB5.out.size; omega))
    clear hch hb7 k7
    go_wp2_with (go_at_call 23; (with_reducible refine HC.out.mono ?_); rintro e w8 ⟨rfl, hb8⟩)
    go_ret
    exact ⟨ret_bool (by simp), Below.trans' HB7.out hb8 HB7.out.size⟩
  · have hlen' : ¬ (1 : Int) < (L.length : Int) := by omega
    have k5 := (HW5.out.block w4.heap.size (by omega)).trans HK4.out
    obtain ⟨u0, u1⟩ : w5.cell? ⟨w4.heap.size, 0, none⟩ = some (.slice so4 n4 c4) ∧ w5.cell? ⟨w4.heap.size, 1, none⟩ = some (.int .i64 u.root) := by simp [World.cell?, k5]
    have HC := Lib.hid (check_is (HK.out.1 w5 (Keep.of (Below.trans' HB4.out.2 HW5.out (by omega)) (Nat.le_refl _))) HK.out.2.1)
    clear k5
    go_wp2_with (go_at_call 23; (with_reducible refine HC.out.mono ?_); rintro e w8 ⟨rfl, hb8⟩)
    go_ret
    exact ⟨ret_bool (by simp), Below.trans' HB5.out hb8 HB5.out.size⟩
end Go.Proofs.YtggcinmjmkfboaaDoor
