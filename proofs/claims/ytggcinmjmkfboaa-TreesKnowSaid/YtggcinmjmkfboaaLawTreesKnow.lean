/- The law TreesKnow: what was put is known, and nothing else. -/
import Derived.Test.YtggcinmjmkfboaaKT
import Derived.Test.YtggcinmjmkfboaaCP
namespace Go.Proofs.Ytggcinmjmkfboaa
open Go.RowKit

theorem empty_fault : treeFault ⟨[], 0⟩ = 7 := by
  unfold treeFault
  rw [if_neg (by simp), if_neg]
  rintro ⟨l, h, hv, -⟩
  simp [vis, Tr.at?] at hv
theorem empty_at (w : World) : TreeAt w (.agg #[.slice none 0 0, .int .i64 0]) ⟨[], 0⟩ := ⟨_, rfl, [], SlAt.nil _ _ _ _, rfl, fun i r x h => by simp at h⟩
theorem copy_is {v : Value} {t : Tr} {w : World} (h : TreeAt w v t) : Calls Try.prog 13 #[v] w fun e w' => ∃ so n c, e = .returned (.agg #[.slice so n c, .int .i64 t.root]) ∧ TreeAt w' (.agg #[.slice so n c, .int .i64 t.root]) t ∧ Below w.heap.size w w' := by
  obtain ⟨nv, rfl, hn⟩ := h
  refine (treeCopy_any hn ⟨_, rfl⟩).mono ?_
  rintro e w' ⟨nv', rfl, hn', hb⟩
  obtain ⟨⟨ao, cap, rfl⟩, -⟩ := hn'.len
  exact ⟨_, _, _, rfl, ⟨_, rfl, hn'⟩, hb⟩
theorem check_empty (w : World) : Calls Try.prog 12 #[.agg #[.slice none 0 0, .int .i64 0]] w fun e w' => e = .returned (.int .i64 7) ∧ Below w.heap.size w w' := by
  have := treeCheck_any (empty_at w)
  rwa [empty_fault] at this
set_option maxRecDepth 100000 in
set_option maxHeartbeats 4000000 in
theorem treesKnow_any {v : Value} {xs : List Rw} {m : Int} {w : World} (h : RwsAt w v xs) (hx : ∀ a ∈ xs, a.ok) (hm : -9223372036854775808 ≤ m ∧ m ≤ 9223372036854775807) :
    Calls Try.prog 4 #[v, .int .i64 m] w fun e w' => e = .returned (.bool true) ∧ Below w.heap.size w w' := by
  obtain ⟨ao, cap, rfl⟩ := h.isSlice
  obtain ⟨Q, hQ⟩ : ∃ Q, picked m 200 = Q := ⟨_, rfl⟩
  have hQr := picked_range (n := m) (m := 200) (by decide)
  have HPQ := Lib.hid fun W => picked_any2 m 200 W hm.1 hm.2 (by decide) (by decide)
  rw [hQ] at hQr HPQ
  obtain ⟨K, hK⟩ : ∃ K : Nat, (K : Int) = 1 + Q := ⟨(1 + Q).toNat, by omega⟩
  have hKb : 1 ≤ K ∧ K ≤ 200 := by omega
  have hw1 : IntKind.i64.wrap (1 + Q) = (K : Int) := by rw [hK]; exact IntWalk.i64_in _ (by omega)
  have hw2 : IntKind.i64.wrap ((K : Int) + 2) = ((K + 2 : Nat) : Int) := by rw [IntWalk.i64_in _ (by omega)]; push_cast; rfl
  have HKT := Lib.hid fun W (hb : Below w.heap.size w W) => kTree_any (many := (K : Int)) (h.below hb (Nat.le_refl _)) hx (by omega)
  clear h hx hm hQ hQr hK
  go_enter Try.func4, Try.ntmps4
  go_upto_region 2 with (go_at_call 8; (with_reducible refine (HPQ.out _).mono ?_); rintro e w1 ⟨rfl, hb1⟩)
  have HB1 := Lib.hid hb1
  clear hb1
  go_upto_region 3 with (go_at_call 9; (with_reducible refine (HKT.out _ HB1.out).mono ?_); rintro e w2 ⟨hb2, s, n, c, t, mb, E, rfl, hm1, hm2, hkt, hg, hke, hel, hmap⟩)
  obtain ⟨W2, hW2⟩ : ∃ W2, W2 = w2.alloc (.cells #[.slice s n c, .int .i64 t.root] 25) := ⟨_, rfl⟩
  have hb2' : Below w2.heap.size w2 W2 := by rw [hW2]; exact (by repeat (first | with_reducible exact Below.refl _ _ | with_reducible assumption | with_reducible refine below_dn ?_ _ | with_reducible refine Below.drew ?_ | with_reducible refine Below.alloc ?_ (by first | omega | (simp; done) | (simp; omega) | (simp [drew_size]; done) | (simp [drew_size]; omega)) _ | with_reducible refine Below.setCell ?_ (by first | omega | (simp; done) | (simp; omega) | (simp [drew_size]; done) | (simp [drew_size]; omega)) _))
  have k2 : W2.heap[w2.heap.size]? = some (.cells #[.slice s n c, .int .i64 t.root] 25) := by rw [hW2]; exact heap_new _ _ rfl
  have hs1 := HB1.out.size
  have hs2 := hb2.size
  have hz2 : W2.heap.size = w2.heap.size + 1 := by rw [hW2]; simp
  have HB2 := Lib.hid (Below.trans' (Below.trans' HB1.out hb2 hs1) hb2' (by omega))
  have HX := Lib.hid fun W (hb : Below W2.heap.size W2 W) => (show W.cell? ⟨w2.heap.size, 0, none⟩ = some (.slice s n c) ∧ W.cell? ⟨w2.heap.size, 1, none⟩ = some (.int .i64 t.root) from by
    have a2 := (hb.block w2.heap.size (by omega)).trans k2
    simp [World.cell?, a2])
  have HTR := Lib.hid fun W (hb : Below W2.heap.size W2 W) => hkt W (Keep.of (Below.trans' hb2' hb (by omega)) (Nat.le_refl _))
  have HM := Lib.hid fun W (hb : Below W2.heap.size W2 W) => (hmap.block ((hb.block mb (by omega)).trans (hb2'.block mb hm2)))
  have HG := Lib.hid (And.intro hg (hke.small (by omega)))
  rw [← hW2]
  obtain ⟨tb, htb⟩ : ∃ tb, w2.heap.size = tb := ⟨_, rfl⟩
  rw [htb] at HX ⊢
  clear hW2 hb2 hb2' k2 hkt hg hke hel hmap hm1 hm2 HKT hs1 hs2 hz2 htb hw1
  go_wp2_with fail
  go_loopg [24] (K + 2) (fun g i wr => ∃ j : Nat, j ≤ K + 2 ∧ g = K + 2 - j ∧ i = .int .i64 j ∧ Hid (Below W2.heap.size W2 wr))
  case atStart => exact ⟨0, Nat.zero_le _, rfl, rfl, Lib.hid (Below.refl _ _)⟩
  case round =>
    obtain ⟨j, hj, rfl, rfl, HR⟩ := hrel
    by_cases hlt : j < K + 2
    · have hlt' : (j : Int) < ((K + 2 : Nat) : Int) := by omega
      obtain ⟨J, hJ⟩ : ∃ q, look E (j : Int) = q := ⟨_, rfl⟩
      have HGT := Lib.hid (get_is (HTR.out _ HR.out) HG.out.1 HG.out.2 (key := (j : Int)) (by omega) (by omega) hJ)
      have HLK := Lib.hid fun W (hb : Below W2.heap.size W2 W) => (show (Instr.lookup 34 (.map (some mb)) (.int .i64 (j : Int)) false).run Try.prog W = .ok (.agg #[.int .i64 J.c, .int .i64 J.s, .int .i64 J.mi, .int .i64 J.ma, .int .i64 J.t, .int .i64 J.l]) W by
        have h1 := (HM.out W hb).look (n := (j : Int)) (by unfold i64; omega)
        rw [h1, hJ])
      obtain ⟨x0, x1⟩ := HX.out _ HR.out
      clear hJ
      go_upto_region 7 with (go_at_call 10; (with_reducible refine HGT.out.mono ?_); rintro e w5 ⟨rfl, hb5⟩)
      obtain ⟨W5, hW5⟩ : ∃ W', W' = w5.alloc (.cells #[.int .i64 J.c, .int .i64 J.s, .int .i64 J.mi, .int .i64 J.ma, .int .i64 J.t, .int .i64 J.l] 38) := ⟨_, rfl⟩
      have hb5' : Below w5.heap.size w5 W5 := by rw [hW5]; exact (by repeat (first | with_reducible exact Below.refl _ _ | with_reducible assumption | with_reducible refine below_dn ?_ _ | with_reducible refine Below.drew ?_ | with_reducible refine Below.alloc ?_ (by first | omega | (simp; done) | (simp; omega) | (simp [drew_size]; done) | (simp [drew_size]; omega)) _ | with_reducible refine Below.setCell ?_ (by first | omega | (simp; done) | (simp; omega) | (simp [drew_size]; done) | (simp [drew_size]; omega)) _))
      have q5 : BoxAt W5 w5.heap.size J := by rw [hW5]; exact BoxAt.new _ _
      have hb7 := Below.trans' HR.out (Below.trans' hb5 hb5' hb5.size) HR.out.size
      have HB7 := Lib.hid hb7
      have hlook := HLK.out _ hb7
      obtain ⟨b0, b1, b2, b3, b4, b5⟩ := q5.cells
      rw [← hW5]
      clear hW5 hb5 hb5' q5 hb7 x0 x1
      go_wp2_with fail
      go_roundg (K + 2 - (j + 1))
      case measure => omega
      case rel => exact ⟨j + 1, by omega, rfl, by go_num, HB7⟩
    · have hlt' : ¬ (j : Int) < ((K + 2 : Nat) : Int) := by omega
      obtain ⟨x0, x1⟩ := HX.out _ HR.out
      have HAL := Lib.hid (all_is (HTR.out _ HR.out) HG.out.1.fault (HG.out.1.allR HG.out.2))
      obtain ⟨BL, hBL⟩ : ∃ q, (bag E).length = q := ⟨_, rfl⟩
      have HML := Lib.hid fun W (hb : Below W2.heap.size W2 W) ty => (HM.out W hb).len HG.out.1.goods ty
      rw [hBL] at HAL HML
      go_upto_region 11 with (go_at_call 11; (with_reducible refine HAL.out.mono ?_); rintro e w5 ⟨so, sc, rfl, hb5, -⟩)
      have HB5 := Lib.hid (Below.trans' HR.out hb5 HR.out.size)
      clear x0 x1 hb5
      obtain ⟨x0, x1⟩ := HX.out _ HB5.out
      have hlen := fun ty => HML.out _ HB5.out ty
      have HC1 := Lib.hid fun W (hb : Below W2.heap.size W2 W) => check_is (HTR.out W hb) HG.out.1.fault
      have HCP := Lib.hid fun W (hb : Below W2.heap.size W2 W) => copy_is (HTR.out W hb)
      go_wp2_with (first
        | (go_at_call 12; (with_reducible refine (HC1.out w5 HB5.out).mono ?_); rintro e w6 ⟨rfl, hb6⟩; have HB6 := Lib.hid (Below.trans' HB5.out hb6 HB5.out.size); obtain ⟨y0, y1⟩ := HX.out _ HB6.out; have hlen6 := fun ty => HML.out _ HB6.out ty)
        | (go_at_call 13; (with_reducible refine (HCP.out _ HB6.out).mono ?_); rintro e w7 ⟨so7, n7, c7, rfl, ht7, hb7⟩; have HT7 := Lib.hid ht7; have HB7 := Lib.hid (Below.trans' HB6.out hb7 HB6.out.size))
        | (go_at_call 12; (with_reducible refine (check_is HT7.out HG.out.1.fault).mono ?_); rintro e w8 ⟨rfl, hb8⟩; have HB8 := Lib.hid (Below.trans' HB7.out hb8 HB7.out.size))
        | (go_at_call 12; (with_reducible refine (check_empty w8).mono ?_); rintro e w9 ⟨rfl, hb9⟩; have HB9 := Lib.hid (Below.trans' HB8.out hb9 HB8.out.size)))
      go_ret
      exact ⟨ret_bool (by simp), HB2.out.trans (HB9.out.mono HB2.out.size)⟩
end Go.Proofs.Ytggcinmjmkfboaa
