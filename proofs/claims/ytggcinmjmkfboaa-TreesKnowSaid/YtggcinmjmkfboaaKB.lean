/- Texts of mine that come as one: Rollup Box. -/
import Derived.Test.YtggcinmjmkfboaaPicked
import Derived.Test.YtggcinmjmkfboaaPG
/- The walk of winnowerkeep.Rollup. -/
namespace Go.Proofs.Ytggcinmjmkfboaa
open Go.RowKit

theorem pt_check {time value : Int} (h0 : 0 ≤ time) (h1 : time ≤ 1048575) (h2 : -1000000 ≤ value) (h3 : value ≤ 1000000) : rollCheck ⟨1, value, value, value, time, value⟩ = 0 := by
  refine rc0 ⟨?_, ?_, ?_, ?_, ?_, ?_, ?_, ?_, ?_, ?_, ?_, ?_⟩ (by simp) ⟨?_, ?_, ?_, ?_⟩ <;> simp only <;> omega
theorem picked_any2 (n m : Int) (w : World) (h0 : -9223372036854775808 ≤ n) (h1 : n ≤ 9223372036854775807) (hm : 1 ≤ m) (hm2 : m ≤ 9223372036854775807) :
    Calls Try.prog 8 #[.int .i64 n, .int .i64 m] w fun e w' => e = .returned (.int .i64 (picked n m)) ∧ Below w.heap.size w w' := (picked_any n m w h0 h1 hm hm2).mono fun _ _ h => ⟨h.1, by rw [← h.2]; exact Below.refl _ _⟩
theorem roll_box {w : World} {tb : Nat} {a0 a1 a2 a3 a4 a5 v0 v1 v2 v3 v4 v5 : Value} {T : TypeId} {fr : Nat × Nat} (h : w.heap[tb]? = some (.cells #[a0, a1, a2, a3, a4, a5] T fr)) :
    ((((((w.setCell ⟨tb, 0, none⟩ v0).setCell ⟨tb, 1, none⟩ v1).setCell ⟨tb, 2, none⟩ v2).setCell ⟨tb, 3, none⟩ v3).setCell ⟨tb, 4, none⟩ v4).setCell ⟨tb, 5, none⟩ v5).heap[tb]? = some (.cells #[v0, v1, v2, v3, v4, v5] T fr) := by
  have h := heap_setCell_same (off := 5) (v := v5) (heap_setCell_same (off := 4) (v := v4) (heap_setCell_same (off := 3) (v := v3) (heap_setCell_same (off := 2) (v := v2) (heap_setCell_same (off := 1) (v := v1) (heap_setCell_same (off := 0) (v := v0) h)))))
  simpa using h
/-- What Rollup makes of a raw thing: of its first point, then of some more. -/
def rollStep (a b : Int) (j : Nat) : Roll := ⟨1, picked (b.tdiv ((j : Int) + 2)) 300 - 150, picked (b.tdiv ((j : Int) + 2)) 300 - 150, picked (b.tdiv ((j : Int) + 2)) 300 - 150, picked a 5000 + (j : Int), picked (b.tdiv ((j : Int) + 2)) 300 - 150⟩
def rollN (a b : Int) : Nat → Roll
  | 0 => ⟨1, picked b 200 - 100, picked b 200 - 100, picked b 200 - 100, picked a 5000, picked b 200 - 100⟩
  | j + 1 => (rollN a b j).join (rollStep a b j)
def rollupF (a b c : Int) : Roll := rollN a b (picked c 4).toNat
set_option maxRecDepth 100000 in
set_option maxHeartbeats 4000000 in
theorem rollup_is {k a b c : Int} {w : World} (ha : -9223372036854775808 ≤ a ∧ a ≤ 9223372036854775807) (hb : -9223372036854775808 ≤ b ∧ b ≤ 9223372036854775807) (hc : -9223372036854775808 ≤ c ∧ c ≤ 9223372036854775807) :
    Calls Try.prog 20 #[.agg #[.int .i64 k, .int .i64 a, .int .i64 b, .int .i64 c]] w fun e w' => (∃ r : Roll, e = .returned r.v ∧ rollCheck r = 0 ∧ 1 ≤ r.c ∧ r.c ≤ 4 ∧ r = rollupF a b c) ∧ Below w.heap.size w w' := by
  obtain ⟨W0, hW0⟩ : ∃ W0, W0 = (w.alloc (.cells #[.int .i64 k, .int .i64 a, .int .i64 b, .int .i64 c] 54)).alloc (.cells #[.int .i64 0, .int .i64 0, .int .i64 0, .int .i64 0, .int .i64 0, .int .i64 0] 38) := ⟨_, rfl⟩
  have hb0 : Below w.heap.size w W0 := by rw [hW0]; exact (by repeat (first | with_reducible exact Below.refl _ _ | with_reducible assumption | with_reducible refine below_dn ?_ _ | with_reducible refine Below.drew ?_ | with_reducible refine Below.alloc ?_ (by first | omega | (simp; done) | (simp; omega) | (simp [drew_size]; done) | (simp [drew_size]; omega)) _ | with_reducible refine Below.setCell ?_ (by first | omega | (simp; done) | (simp; omega) | (simp [drew_size]; done) | (simp [drew_size]; omega)) _))
  have hz0 : W0.heap.size = w.heap.size + 2 := by rw [hW0]; simp
  have k0 : W0.heap[w.heap.size]? = some (.cells #[.int .i64 k, .int .i64 a, .int .i64 b, .int .i64 c] 54) := by rw [hW0, Below.heap_alloc _ _ _ (by simp)]; exact heap_new _ _ rfl
  have k1 : W0.heap[w.heap.size + 1]? = some (.cells #[.int .i64 0, .int .i64 0, .int .i64 0, .int .i64 0, .int .i64 0, .int .i64 0] 38) := by rw [hW0]; exact heap_new _ _ (by simp)
  have HX := Lib.hid fun W (hb : Below W0.heap.size W0 W) => (by
    have b0 : W.heap[w.heap.size]? = _ := (hb.block _ (by omega)).trans k0
    simp [World.cell?, b0] : W.cell? ⟨w.heap.size, 1, none⟩ = some (.int .i64 a) ∧ W.cell? ⟨w.heap.size, 2, none⟩ = some (.int .i64 b) ∧ W.cell? ⟨w.heap.size, 3, none⟩ = some (.int .i64 c))
  have HR := Lib.hid k1
  have HB0 := Lib.hid hb0
  obtain ⟨T, hT⟩ : ∃ T, picked a 5000 = T := ⟨_, rfl⟩
  obtain ⟨V, hV⟩ : ∃ V, picked b 200 = V := ⟨_, rfl⟩
  have hTr := picked_range (n := a) (m := 5000) (by decide)
  have hVr := picked_range (n := b) (m := 200) (by decide)
  rw [hT] at hTr
  rw [hV] at hVr
  have HPA := Lib.hid fun W => picked_any2 a 5000 W ha.1 ha.2 (by decide) (by decide)
  have HPB := Lib.hid fun W => picked_any2 b 200 W hb.1 hb.2 (by decide) (by decide)
  rw [hT] at HPA
  rw [hV] at HPB
  have HOF := Lib.hid fun W => of_any T (V - 100) W
  rw [show rollOf T (V - 100) = ((⟨1, V - 100, V - 100, V - 100, T, V - 100⟩ : Roll), 0) from if_pos (by omega)] at HOF
  have hwv : IntKind.i64.wrap (V - 100) = V - 100 := IntWalk.i64_in _ (by omega)
  have HAB := Lib.hid (And.intro ha (And.intro hb hc))
  obtain ⟨x1, x2, x3⟩ := HX.out W0 (Below.refl _ _)
  have HTV := Lib.hid (And.intro hT hV)
  clear ha hb hc hT hV k0 k1 hb0
  go_enter Try.func20, Try.ntmps20
  go_upto_region 1 with (fail)
  rw [← hW0]
  clear hW0
  go_cut [3, 4] (fun p e wx => ∃ (tb : Nat), p = .pointer (some ⟨tb, 0, none⟩) ∧ e = .int .i64 0 ∧ Hid (Below W0.heap.size W0 wx ∧ W0.heap.size ≤ tb ∧ wx.heap[tb]? = some (.cells #[.int .i64 1, .int .i64 (V - 100), .int .i64 (V - 100), .int .i64 (V - 100), .int .i64 T, .int .i64 (V - 100)] 38)))
  case first =>
    refine wp_region_fork (Sch.of [(0, 1), (1, 0), (3, 1), (4, 0)] (.fork 2 11 (.fork 5 11 (Sch.of [(6, 1)] (.fork 7 11 (Sch.of [(8, 1), (9, 1), (10, 1)] (Sch.of [(11, 2), (12, 3), (13, 1)] .nil)) (Sch.of [(7, 2), (8, 1), (9, 1), (10, 1), (12, 3), (13, 1)] .nil))) (Sch.of [(5, 2), (6, 1), (7, 2), (8, 1), (9, 1), (10, 1), (12, 3), (13, 1)] .nil)) (Sch.of [(2, 2), (5, 2), (6, 1), (7, 2), (8, 1), (9, 1), (10, 1), (12, 3), (13, 1)] .nil))) 12
      (fun W => W.cell? ⟨w.heap.size, 1, none⟩ = some (.int .i64 a) ∧ W.cell? ⟨w.heap.size, 2, none⟩ = some (.int .i64 b)) (by kernel_rfl) (by kernel_rfl) ⟨x1, x2⟩ ?_
    simp only [Sch.of]
    have B_W0 : Below W0.heap.size W0 W0.drew := Below.drew (Below.refl _ _)
    clear hz0 x1 x2 x3
    (repeat (first | ((refine fork_pure (v := ?_) rfl rfl (fun W => ?_) ?_); rotate_left; focus (go_simp; (try with_reducible rfl); done); (try simp only [Act.put, List.setIfInBounds_toArray, List.set_cons_zero, List.set_cons_succ])) | ((refine fork_read (v := ?_) rfl rfl (fun W hW => ?_) ?_); rotate_left; focus ((try dsimp only at hW); go_simp; (try with_reducible rfl); done); (try simp only [Act.put, List.setIfInBounds_toArray, List.set_cons_zero, List.set_cons_succ]))))
    refine fork_both rfl rfl rfl rfl (fun K hK => ?_) (fun K hK => ?_)
    · skip
      go_simp
      (with_reducible refine (HPA.out _).mono ?_)
      rintro e w1 ⟨rfl, hb_w1⟩
      go_simp
      have B_w1 : Below W0.heap.size W0 w1 := Below.trans' B_W0 hb_w1 B_W0.size
      try (have KT := (hb_w1.block tb (by have := (Array.getElem?_eq_some_iff.1 KT).1; omega)).trans KT)
      refine hK _ _ (by have h := HX.out _ B_w1; exact ⟨h.1, h.2.1⟩) ?_
      clear hK K hb_w1
      (repeat (first | ((refine fork_pure (v := ?_) rfl rfl (fun W => ?_) ?_); rotate_left; focus (go_simp; (try with_reducible rfl); done); (try simp only [Act.put, List.setIfInBounds_toArray, List.set_cons_zero, List.set_cons_succ])) | ((refine fork_read (v := ?_) rfl rfl (fun W hW => ?_) ?_); rotate_left; focus ((try dsimp only at hW); go_simp; (try with_reducible rfl); done); (try simp only [Act.put, List.setIfInBounds_toArray, List.set_cons_zero, List.set_cons_succ]))))
      refine fork_both rfl rfl rfl rfl (fun K hK => ?_) (fun K hK => ?_)
      · skip
        go_simp
        (with_reducible refine (HPB.out _).mono ?_)
        rintro e w2 ⟨rfl, hb_w2⟩
        go_simp
        have B_w2 : Below W0.heap.size W0 w2 := Below.trans' B_w1 hb_w2 B_w1.size
        try (have KT := (hb_w2.block tb (by have := (Array.getElem?_eq_some_iff.1 KT).1; omega)).trans KT)
        refine hK _ _ (by have h := HX.out _ B_w2; exact ⟨h.1, h.2.1⟩) ?_
        clear hK K hb_w2
        (repeat (first | ((refine fork_pure (v := ?_) rfl rfl (fun W => ?_) ?_); rotate_left; focus (go_simp; (try with_reducible rfl); done); (try simp only [Act.put, List.setIfInBounds_toArray, List.set_cons_zero, List.set_cons_succ])) | ((refine fork_read (v := ?_) rfl rfl (fun W hW => ?_) ?_); rotate_left; focus ((try dsimp only at hW); go_simp; (try with_reducible rfl); done); (try simp only [Act.put, List.setIfInBounds_toArray, List.set_cons_zero, List.set_cons_succ]))))
        refine fork_both rfl rfl rfl rfl (fun K hK => ?_) (fun K hK => ?_)
        · skip
          go_simp
          (with_reducible refine (HOF.out _).mono ?_)
          rintro e w3 ⟨rfl, hb_w3⟩
          go_simp
          have B_w3 : Below W0.heap.size W0 w3 := Below.trans' B_w2 hb_w3 B_w2.size
          try (have KT := (hb_w3.block tb (by have := (Array.getElem?_eq_some_iff.1 KT).1; omega)).trans KT)
          refine hK _ _ (by have h := HX.out _ B_w3; exact ⟨h.1, h.2.1⟩) ?_
          clear hK K hb_w3
          (repeat (first | ((refine fork_pure (v := ?_) rfl rfl (fun W => ?_) ?_); rotate_left; focus (go_simp; (try with_reducible rfl); done); (try simp only [Act.put, List.setIfInBounds_toArray, List.set_cons_zero, List.set_cons_succ])) | ((refine fork_read (v := ?_) rfl rfl (fun W hW => ?_) ?_); rotate_left; focus ((try dsimp only at hW); go_simp; (try with_reducible rfl); done); (try simp only [Act.put, List.setIfInBounds_toArray, List.set_cons_zero, List.set_cons_succ]))))
          refine fork_does rfl rfl (fun K hK => ?_)
          go_simp
          obtain ⟨W4, hW⟩ : ∃ W', W' = w3.alloc (.cells #[.int .i64 0, .int .i64 0, .int .i64 0, .int .i64 0, .int .i64 0, .int .i64 0] 38) := ⟨_, rfl⟩
          have B_W4 : Below W0.heap.size W0 W4 := by rw [hW]; exact Below.trans' B_w3 ((Below.refl _ _).alloc (Nat.le_refl _) _) B_w3.size
          have KT : W4.heap[w3.heap.size]? = some (.cells #[.int .i64 0, .int .i64 0, .int .i64 0, .int .i64 0, .int .i64 0, .int .i64 0] 38) := by rw [hW]; exact heap_new _ _ rfl
          rw [← hW]
          refine hK _ _ (by have h := HX.out _ B_W4; exact ⟨h.1, h.2.1⟩) ?_
          clear hK K hW
          obtain ⟨tb, htb⟩ : ∃ tb, w3.heap.size = tb := ⟨_, rfl⟩
          have hlo : W0.heap.size ≤ tb := by rw [← htb]; exact B_w3.size
          rw [htb] at KT ⊢
          clear htb
          (repeat (first | ((refine fork_pure (v := ?_) rfl rfl (fun W => ?_) ?_); rotate_left; focus (go_simp; (try with_reducible rfl); done); (try simp only [Act.put, List.setIfInBounds_toArray, List.set_cons_zero, List.set_cons_succ])) | ((refine fork_read (v := ?_) rfl rfl (fun W hW => ?_) ?_); rotate_left; focus ((try dsimp only at hW); go_simp; (try with_reducible rfl); done); (try simp only [Act.put, List.setIfInBounds_toArray, List.set_cons_zero, List.set_cons_succ]))))
          obtain ⟨c0, c1, c2, c3, c4, c5, cf⟩ : W4.cell? ⟨tb, 0, none⟩ = some (.int .i64 0) ∧ W4.cell? ⟨tb, 1, none⟩ = some (.int .i64 0) ∧ W4.cell? ⟨tb, 2, none⟩ = some (.int .i64 0) ∧ W4.cell? ⟨tb, 3, none⟩ = some (.int .i64 0) ∧ W4.cell? ⟨tb, 4, none⟩ = some (.int .i64 0) ∧ W4.cell? ⟨tb, 5, none⟩ = some (.int .i64 0) ∧ ∀ o, W4.frozen? ⟨tb, o, none⟩ = false := by simp [World.cell?, World.frozen?, KT]
          have HKT := Lib.hid KT
          clear KT
          refine fork_last rfl rfl (fun K hK => ?_)
          go_simp
          refine hK _ _ ?_
          clear hK K
          (repeat (first | ((refine fork_pure (v := ?_) rfl rfl (fun W => ?_) ?_); rotate_left; focus (go_simp; (try with_reducible rfl); done); (try simp only [Act.put, List.setIfInBounds_toArray, List.set_cons_zero, List.set_cons_succ])) | ((refine fork_read (v := ?_) rfl rfl (fun W hW => ?_) ?_); rotate_left; focus ((try dsimp only at hW); go_simp; (try with_reducible rfl); done); (try simp only [Act.put, List.setIfInBounds_toArray, List.set_cons_zero, List.set_cons_succ]))))
          refine fork_end ?_
          go_wp2_with fail
          go_meet
          exact ⟨tb, rfl, rfl, Lib.hid ⟨(((((B_W4.setCell hlo _).setCell hlo _).setCell hlo _).setCell hlo _).setCell hlo _).setCell hlo _, hlo, roll_box HKT.out⟩⟩
        · skip
          go_simp
          obtain ⟨W3, hW⟩ : ∃ W', W' = w2.alloc (.cells #[.int .i64 0, .int .i64 0, .int .i64 0, .int .i64 0, .int .i64 0, .int .i64 0] 38) := ⟨_, rfl⟩
          have B_W3 : Below W0.heap.size W0 W3 := by rw [hW]; exact Below.trans' B_w2 ((Below.refl _ _).alloc (Nat.le_refl _) _) B_w2.size
          have KT : W3.heap[w2.heap.size]? = some (.cells #[.int .i64 0, .int .i64 0, .int .i64 0, .int .i64 0, .int .i64 0, .int .i64 0] 38) := by rw [hW]; exact heap_new _ _ rfl
          rw [← hW]
          refine hK _ _ (by have h := HX.out _ B_W3; exact ⟨h.1, h.2.1⟩) ?_
          clear hK K hW
          obtain ⟨tb, htb⟩ : ∃ tb, w2.heap.size = tb := ⟨_, rfl⟩
          have hlo : W0.heap.size ≤ tb := by rw [← htb]; exact B_w2.size
          rw [htb] at KT ⊢
          clear htb
          (repeat (first | ((refine fork_pure (v := ?_) rfl rfl (fun W => ?_) ?_); rotate_left; focus (go_simp; (try with_reducible rfl); done); (try simp only [Act.put, List.setIfInBounds_toArray, List.set_cons_zero, List.set_cons_succ])) | ((refine fork_read (v := ?_) rfl rfl (fun W hW => ?_) ?_); rotate_left; focus ((try dsimp only at hW); go_simp; (try with_reducible rfl); done); (try simp only [Act.put, List.setIfInBounds_toArray, List.set_cons_zero, List.set_cons_succ]))))
          refine fork_does rfl rfl (fun K hK => ?_)
          go_simp
          (with_reducible refine (HOF.out _).mono ?_)
          rintro e w4 ⟨rfl, hb_w4⟩
          go_simp
          have B_w4 : Below W0.heap.size W0 w4 := Below.trans' B_W3 hb_w4 B_W3.size
          try (have KT := (hb_w4.block tb (by have := (Array.getElem?_eq_some_iff.1 KT).1; omega)).trans KT)
          refine hK _ _ (by have h := HX.out _ B_w4; exact ⟨h.1, h.2.1⟩) ?_
          clear hK K hb_w4
          (repeat (first | ((refine fork_pure (v := ?_) rfl rfl (fun W => ?_) ?_); rotate_left; focus (go_simp; (try with_reducible rfl); done); (try simp only [Act.put, List.setIfInBounds_toArray, List.set_cons_zero, List.set_cons_succ])) | ((refine fork_read (v := ?_) rfl rfl (fun W hW => ?_) ?_); rotate_left; focus ((try dsimp only at hW); go_simp; (try with_reducible rfl); done); (try simp only [Act.put, List.setIfInBounds_toArray, List.set_cons_zero, List.set_cons_succ]))))
          obtain ⟨c0, c1, c2, c3, c4, c5, cf⟩ : w4.cell? ⟨tb, 0, none⟩ = some (.int .i64 0) ∧ w4.cell? ⟨tb, 1, none⟩ = some (.int .i64 0) ∧ w4.cell? ⟨tb, 2, none⟩ = some (.int .i64 0) ∧ w4.cell? ⟨tb, 3, none⟩ = some (.int .i64 0) ∧ w4.cell? ⟨tb, 4, none⟩ = some (.int .i64 0) ∧ w4.cell? ⟨tb, 5, none⟩ = some (.int .i64 0) ∧ ∀ o, w4.frozen? ⟨tb, o, none⟩ = false := by simp [World.cell?, World.frozen?, KT]
          have HKT := Lib.hid KT
          clear KT
          refine fork_last rfl rfl (fun K hK => ?_)
          go_simp
          refine hK _ _ ?_
          clear hK K
          (repeat (first | ((refine fork_pure (v := ?_) rfl rfl (fun W => ?_) ?_); rotate_left; focus (go_simp; (try with_reducible rfl); done); (try simp only [Act.put, List.setIfInBounds_toArray, List.set_cons_zero, List.set_cons_succ])) | ((refine fork_read (v := ?_) rfl rfl (fun W hW => ?_) ?_); rotate_left; focus ((try dsimp only at hW); go_simp; (try with_reducible rfl); done); (try simp only [Act.put, List.setIfInBounds_toArray, List.set_cons_zero, List.set_cons_succ]))))
          refine fork_end ?_
          go_wp2_with fail
          go_meet
          exact ⟨tb, rfl, rfl, Lib.hid ⟨(((((B_w4.setCell hlo _).setCell hlo _).setCell hlo _).setCell hlo _).setCell hlo _).setCell hlo _, hlo, roll_box HKT.out⟩⟩
      · skip
        go_simp
        obtain ⟨W2, hW⟩ : ∃ W', W' = w1.alloc (.cells #[.int .i64 0, .int .i64 0, .int .i64 0, .int .i64 0, .int .i64 0, .int .i64 0] 38) := ⟨_, rfl⟩
        have B_W2 : Below W0.heap.size W0 W2 := by rw [hW]; exact Below.trans' B_w1 ((Below.refl _ _).alloc (Nat.le_refl _) _) B_w1.size
        have KT : W2.heap[w1.heap.size]? = some (.cells #[.int .i64 0, .int .i64 0, .int .i64 0, .int .i64 0, .int .i64 0, .int .i64 0] 38) := by rw [hW]; exact heap_new _ _ rfl
        rw [← hW]
        refine hK _ _ (by have h := HX.out _ B_W2; exact ⟨h.1, h.2.1⟩) ?_
        clear hK K hW
        obtain ⟨tb, htb⟩ : ∃ tb, w1.heap.size = tb := ⟨_, rfl⟩
        have hlo : W0.heap.size ≤ tb := by rw [← htb]; exact B_w1.size
        rw [htb] at KT ⊢
        clear htb
        (repeat (first | ((refine fork_pure (v := ?_) rfl rfl (fun W => ?_) ?_); rotate_left; focus (go_simp; (try with_reducible rfl); done); (try simp only [Act.put, List.setIfInBounds_toArray, List.set_cons_zero, List.set_cons_succ])) | ((refine fork_read (v := ?_) rfl rfl (fun W hW => ?_) ?_); rotate_left; focus ((try dsimp only at hW); go_simp; (try with_reducible rfl); done); (try simp only [Act.put, List.setIfInBounds_toArray, List.set_cons_zero, List.set_cons_succ]))))
        refine fork_does rfl rfl (fun K hK => ?_)
        go_simp
        (with_reducible refine (HPB.out _).mono ?_)
        rintro e w3 ⟨rfl, hb_w3⟩
        go_simp
        have B_w3 : Below W0.heap.size W0 w3 := Below.trans' B_W2 hb_w3 B_W2.size
        try (have KT := (hb_w3.block tb (by have := (Array.getElem?_eq_some_iff.1 KT).1; omega)).trans KT)
        refine hK _ _ (by have h := HX.out _ B_w3; exact ⟨h.1, h.2.1⟩) ?_
        clear hK K hb_w3
        (repeat (first | ((refine fork_pure (v := ?_) rfl rfl (fun W => ?_) ?_); rotate_left; focus (go_simp; (try with_reducible rfl); done); (try simp only [Act.put, List.setIfInBounds_toArray, List.set_cons_zero, List.set_cons_succ])) | ((refine fork_read (v := ?_) rfl rfl (fun W hW => ?_) ?_); rotate_left; focus ((try dsimp only at hW); go_simp; (try with_reducible rfl); done); (try simp only [Act.put, List.setIfInBounds_toArray, List.set_cons_zero, List.set_cons_succ]))))
        refine fork_does rfl rfl (fun K hK => ?_)
        go_simp
        (with_reducible refine (HOF.out _).mono ?_)
        rintro e w4 ⟨rfl, hb_w4⟩
        go_simp
        have B_w4 : Below W0.heap.size W0 w4 := Below.trans' B_w3 hb_w4 B_w3.size
        try (have KT := (hb_w4.block tb (by have := (Array.getElem?_eq_some_iff.1 KT).1; omega)).trans KT)
        refine hK _ _ (by have h := HX.out _ B_w4; exact ⟨h.1, h.2.1⟩) ?_
        clear hK K hb_w4
        (repeat (first | ((refine fork_pure (v := ?_) rfl rfl (fun W => ?_) ?_); rotate_left; focus (go_simp; (try with_reducible rfl); done); (try simp only [Act.put, List.setIfInBounds_toArray, List.set_cons_zero, List.set_cons_succ])) | ((refine fork_read (v := ?_) rfl rfl (fun W hW => ?_) ?_); rotate_left; focus ((try dsimp only at hW); go_simp; (try with_reducible rfl); done); (try simp only [Act.put, List.setIfInBounds_toArray, List.set_cons_zero, List.set_cons_succ]))))
        obtain ⟨c0, c1, c2, c3, c4, c5, cf⟩ : w4.cell? ⟨tb, 0, none⟩ = some (.int .i64 0) ∧ w4.cell? ⟨tb, 1, none⟩ = some (.int .i64 0) ∧ w4.cell? ⟨tb, 2, none⟩ = some (.int .i64 0) ∧ w4.cell? ⟨tb, 3, none⟩ = some (.int .i64 0) ∧ w4.cell? ⟨tb, 4, none⟩ = some (.int .i64 0) ∧ w4.cell? ⟨tb, 5, none⟩ = some (.int .i64 0) ∧ ∀ o, w4.frozen? ⟨tb, o, none⟩ = false := by simp [World.cell?, World.frozen?, KT]
        have HKT := Lib.hid KT
        clear KT
        refine fork_last rfl rfl (fun K hK => ?_)
        go_simp
        refine hK _ _ ?_
        clear hK K
        (repeat (first | ((refine fork_pure (v := ?_) rfl rfl (fun W => ?_) ?_); rotate_left; focus (go_simp; (try with_reducible rfl); done); (try simp only [Act.put, List.setIfInBounds_toArray, List.set_cons_zero, List.set_cons_succ])) | ((refine fork_read (v := ?_) rfl rfl (fun W hW => ?_) ?_); rotate_left; focus ((try dsimp only at hW); go_simp; (try with_reducible rfl); done); (try simp only [Act.put, List.setIfInBounds_toArray, List.set_cons_zero, List.set_cons_succ]))))
        refine fork_end ?_
        go_wp2_with fail
        go_meet
        exact ⟨tb, rfl, rfl, Lib.hid ⟨(((((B_w4.setCell hlo _).setCell hlo _).setCell hlo _).setCell hlo _).setCell hlo _).setCell hlo _, hlo, roll_box HKT.out⟩⟩
    · skip
      go_simp
      obtain ⟨W1, hW⟩ : ∃ W', W' = (W0.alloc (.cells #[.int .i64 0, .int .i64 0, .int .i64 0, .int .i64 0, .int .i64 0, .int .i64 0] 38)).drew := ⟨_, rfl⟩
      have B_W1 : Below W0.heap.size W0 W1 := by rw [hW]; exact (by repeat (first | with_reducible exact Below.refl _ _ | with_reducible assumption | with_reducible refine below_dn ?_ _ | with_reducible refine Below.drew ?_ | with_reducible refine Below.alloc ?_ (by first | omega | (simp; done) | (simp; omega) | (simp [drew_size]; done) | (simp [drew_size]; omega)) _ | with_reducible refine Below.setCell ?_ (by first | omega | (simp; done) | (simp; omega) | (simp [drew_size]; done) | (simp [drew_size]; omega)) _))
      have KT : W1.heap[W0.heap.size]? = some (.cells #[.int .i64 0, .int .i64 0, .int .i64 0, .int .i64 0, .int .i64 0, .int .i64 0] 38) := by rw [hW]; exact heap_new _ _ rfl
      rw [← hW]
      refine hK _ _ (by have h := HX.out _ B_W1; exact ⟨h.1, h.2.1⟩) ?_
      clear hK K hW
      obtain ⟨tb, htb⟩ : ∃ tb, W0.heap.size = tb := ⟨_, rfl⟩
      have hlo : W0.heap.size ≤ tb := by rw [← htb]; exact B_W0.size
      rw [htb] at KT ⊢
      clear htb
      (repeat (first | ((refine fork_pure (v := ?_) rfl rfl (fun W => ?_) ?_); rotate_left; focus (go_simp; (try with_reducible rfl); done); (try simp only [Act.put, List.setIfInBounds_toArray, List.set_cons_zero, List.set_cons_succ])) | ((refine fork_read (v := ?_) rfl rfl (fun W hW => ?_) ?_); rotate_left; focus ((try dsimp only at hW); go_simp; (try with_reducible rfl); done); (try simp only [Act.put, List.setIfInBounds_toArray, List.set_cons_zero, List.set_cons_succ]))))
      refine fork_does rfl rfl (fun K hK => ?_)
      go_simp
      (with_reducible refine (HPA.out _).mono ?_)
      rintro e w2 ⟨rfl, hb_w2⟩
      go_simp
      have B_w2 : Below W0.heap.size W0 w2 := Below.trans' B_W1 hb_w2 B_W1.size
      try (have KT := (hb_w2.block tb (by have := (Array.getElem?_eq_some_iff.1 KT).1; omega)).trans KT)
      refine hK _ _ (by have h := HX.out _ B_w2; exact ⟨h.1, h.2.1⟩) ?_
      clear hK K hb_w2
      (repeat (first | ((refine fork_pure (v := ?_) rfl rfl (fun W => ?_) ?_); rotate_left; focus (go_simp; (try with_reducible rfl); done); (try simp only [Act.put, List.setIfInBounds_toArray, List.set_cons_zero, List.set_cons_succ])) | ((refine fork_read (v := ?_) rfl rfl (fun W hW => ?_) ?_); rotate_left; focus ((try dsimp only at hW); go_simp; (try with_reducible rfl); done); (try simp only [Act.put, List.setIfInBounds_toArray, List.set_cons_zero, List.set_cons_succ]))))
      refine fork_does rfl rfl (fun K hK => ?_)
      go_simp
      (with_reducible refine (HPB.out _).mono ?_)
      rintro e w3 ⟨rfl, hb_w3⟩
      go_simp
      have B_w3 : Below W0.heap.size W0 w3 := Below.trans' B_w2 hb_w3 B_w2.size
      try (have KT := (hb_w3.block tb (by have := (Array.getElem?_eq_some_iff.1 KT).1; omega)).trans KT)
      refine hK _ _ (by have h := HX.out _ B_w3; exact ⟨h.1, h.2.1⟩) ?_
      clear hK K hb_w3
      (repeat (first | ((refine fork_pure (v := ?_) rfl rfl (fun W => ?_) ?_); rotate_left; focus (go_simp; (try with_reducible rfl); done); (try simp only [Act.put, List.setIfInBounds_toArray, List.set_cons_zero, List.set_cons_succ])) | ((refine fork_read (v := ?_) rfl rfl (fun W hW => ?_) ?_); rotate_left; focus ((try dsimp only at hW); go_simp; (try with_reducible rfl); done); (try simp only [Act.put, List.setIfInBounds_toArray, List.set_cons_zero, List.set_cons_succ]))))
      refine fork_does rfl rfl (fun K hK => ?_)
      go_simp
      (with_reducible refine (HOF.out _).mono ?_)
      rintro e w4 ⟨rfl, hb_w4⟩
      go_simp
      have B_w4 : Below W0.heap.size W0 w4 := Below.trans' B_w3 hb_w4 B_w3.size
      try (have KT := (hb_w4.block tb (by have := (Array.getElem?_eq_some_iff.1 KT).1; omega)).trans KT)
      refine hK _ _ (by have h := HX.out _ B_w4; exact ⟨h.1, h.2.1⟩) ?_
      clear hK K hb_w4
      (repeat (first | ((refine fork_pure (v := ?_) rfl rfl (fun W => ?_) ?_); rotate_left; focus (go_simp; (try with_reducible rfl); done); (try simp only [Act.put, List.setIfInBounds_toArray, List.set_cons_zero, List.set_cons_succ])) | ((refine fork_read (v := ?_) rfl rfl (fun W hW => ?_) ?_); rotate_left; focus ((try dsimp only at hW); go_simp; (try with_reducible rfl); done); (try simp only [Act.put, List.setIfInBounds_toArray, List.set_cons_zero, List.set_cons_succ]))))
      obtain ⟨c0, c1, c2, c3, c4, c5, cf⟩ : w4.cell? ⟨tb, 0, none⟩ = some (.int .i64 0) ∧ w4.cell? ⟨tb, 1, none⟩ = some (.int .i64 0) ∧ w4.cell? ⟨tb, 2, none⟩ = some (.int .i64 0) ∧ w4.cell? ⟨tb, 3, none⟩ = some (.int .i64 0) ∧ w4.cell? ⟨tb, 4, none⟩ = some (.int .i64 0) ∧ w4.cell? ⟨tb, 5, none⟩ = some (.int .i64 0) ∧ ∀ o, w4.frozen? ⟨tb, o, none⟩ = false := by simp [World.cell?, World.frozen?, KT]
      have HKT := Lib.hid KT
      clear KT
      refine fork_last rfl rfl (fun K hK => ?_)
      go_simp
      refine hK _ _ ?_
      clear hK K
      (repeat (first | ((refine fork_pure (v := ?_) rfl rfl (fun W => ?_) ?_); rotate_left; focus (go_simp; (try with_reducible rfl); done); (try simp only [Act.put, List.setIfInBounds_toArray, List.set_cons_zero, List.set_cons_succ])) | ((refine fork_read (v := ?_) rfl rfl (fun W hW => ?_) ?_); rotate_left; focus ((try dsimp only at hW); go_simp; (try with_reducible rfl); done); (try simp only [Act.put, List.setIfInBounds_toArray, List.set_cons_zero, List.set_cons_succ]))))
      refine fork_end ?_
      go_wp2_with fail
      go_meet
      exact ⟨tb, rfl, rfl, Lib.hid ⟨(((((B_w4.setCell hlo _).setCell hlo _).setCell hlo _).setCell hlo _).setCell hlo _).setCell hlo _, hlo, roll_box HKT.out⟩⟩
  case rest =>
    obtain ⟨tb, rfl, rfl, HC⟩ := hcut
    obtain ⟨hbc, hlo, hbox⟩ := HC.out
    obtain ⟨N, hN⟩ : ∃ N, picked c 4 = N := ⟨_, rfl⟩
    have hNr := picked_range (n := c) (m := 4) (by decide)
    have HPC := Lib.hid (picked_any2 c 4 wc HAB.out.2.2.1 HAB.out.2.2.2 (by decide) (by decide))
    rw [hN] at hNr HPC
    obtain ⟨n, rfl⟩ := Int.eq_ofNat_of_zero_le hNr.1
    have hn4 : n < 4 := by omega
    have HNN := Lib.hid hN
    clear hN hNr x1 x2 x3 hbc hbox
    obtain ⟨-, -, x3⟩ := HX.out _ HC.out.1
    go_upto_region 3 with (go_at_call 8; (with_reducible refine HPC.out.mono ?_); rintro e w5 ⟨rfl, hb5⟩)
    have HR0 := Lib.hid (show ∃ r : Roll, Below W0.heap.size W0 w5 ∧ w5.heap[tb]? = some (.cells #[.int .i64 r.c, .int .i64 r.s, .int .i64 r.mi, .int .i64 r.ma, .int .i64 r.t, .int .i64 r.l] 38) ∧ rollCheck r = 0 ∧ 1 ≤ r.c ∧ r.c ≤ 1 + ((0 : Nat) : Int) ∧ r = rollN a b 0 from
      ⟨⟨1, V - 100, V - 100, V - 100, T, V - 100⟩, Below.trans' HC.out.1 hb5 HC.out.1.size, (hb5.block _ (Array.getElem?_eq_some_iff.1 HC.out.2.2).1).trans HC.out.2.2, pt_check (by omega) (by omega) (by omega) (by omega), by show (1 : Int) ≤ 1; omega, by show (1 : Int) ≤ 1 + ((0 : Nat) : Int); omega, by unfold rollN; rw [HTV.out.1, HTV.out.2]⟩)
    clear hb5 x3
    go_loopg [22] n (fun g i wr => ∃ j : Nat, j ≤ n ∧ g = n - j ∧ i = .int .i64 j ∧ Hid (∃ r : Roll, Below W0.heap.size W0 wr ∧ wr.heap[tb]? = some (.cells #[.int .i64 r.c, .int .i64 r.s, .int .i64 r.mi, .int .i64 r.ma, .int .i64 r.t, .int .i64 r.l] 38) ∧ rollCheck r = 0 ∧ 1 ≤ r.c ∧ r.c ≤ 1 + (j : Int) ∧ r = rollN a b j))
    case atStart => exact ⟨0, Nat.zero_le _, rfl, rfl, HR0⟩
    case round =>
      clear HR0
      obtain ⟨j, hj, rfl, rfl, HRD⟩ := hrel
      obtain ⟨r, hbr, hbox, hck, hc1, hc2, hrn⟩ := HRD.out
      have HRN := Lib.hid hrn
      clear hrn
      by_cases hlt : j < n
      · obtain ⟨D, hD⟩ : ∃ D, b.tdiv ((j : Int) + 2) = D := ⟨_, rfl⟩
        have hDr : -9223372036854775808 ≤ D ∧ D ≤ 9223372036854775807 := by
          have h1 := Int.natAbs_tdiv b ((j : Int) + 2)
          have h2 := HAB.out.2.1
          rw [hD, show ((j : Int) + 2).natAbs = j + 2 from by omega] at h1
          have h1 : D.natAbs = b.natAbs / (j + 2) := h1
          have h3 := Nat.div_le_div_left (show 2 ≤ j + 2 by omega) (show 0 < 2 by decide) (a := b.natAbs)
          omega
        have hwD : IntKind.i64.wrap D = D := IntWalk.i64_in _ (by omega)
        have hwj : IntKind.i64.wrap ((j : Int) + 2) = (j : Int) + 2 := IntWalk.i64_in _ (by omega)
        have hj2 : ((j : Int) + 2 = 0) = False := by simp; omega
        obtain ⟨P, hP⟩ : ∃ P, picked D 300 = P := ⟨_, rfl⟩
        have hPr := picked_range (n := D) (m := 300) (by decide)
        rw [hP] at hPr
        have hwT : IntKind.i64.wrap (T + (j : Int)) = T + (j : Int) := IntWalk.i64_in _ (by omega)
        have hwP : IntKind.i64.wrap (P - 150) = P - 150 := IntWalk.i64_in _ (by omega)
        have HPD := Lib.hid fun W => picked_any2 D 300 W hDr.1 hDr.2 (by decide) (by decide)
        rw [hP] at HPD
        have HOG := Lib.hid fun W => of_any (T + (j : Int)) (P - 150) W
        rw [show rollOf (T + (j : Int)) (P - 150) = ((⟨1, P - 150, P - 150, P - 150, T + (j : Int), P - 150⟩ : Roll), 0) from if_pos (by omega)] at HOG
        have HRR := Lib.hid (And.intro hbr (And.intro hbox (And.intro hck (And.intro hc1 hc2))))
        obtain ⟨x1, x2, -⟩ := HX.out _ hbr
        have hsr := hbr.size
        have HPP := Lib.hid (And.intro hD hP)
        clear hP hbox hck hc1 hc2 HRD
        go_upto_region 5 with (fail)
        go_cut [6, 7] (fun p e wx => ∃ (qb : Nat), p = .pointer (some ⟨qb, 0, none⟩) ∧ e = .int .i64 0 ∧ Hid (Below wr.heap.size wr wx ∧ wr.heap.size ≤ qb ∧ wx.heap[qb]? = some (.cells #[.int .i64 1, .int .i64 (P - 150), .int .i64 (P - 150), .int .i64 (P - 150), .int .i64 (T + (j : Int)), .int .i64 (P - 150)] 38)))
        case first =>
          refine wp_region_fork (Sch.of [(0, 1), (1, 0), (3, 1), (5, 1), (6, 0), (7, 1), (8, 1), (9, 1)] (.fork 2 16 (Sch.of [(4, 1)] (.fork 10 16 (Sch.of [(11, 1)] (.fork 12 16 (Sch.of [(13, 1), (14, 1), (15, 1)] (Sch.of [(16, 2), (17, 3), (18, 1)] .nil)) (Sch.of [(12, 2), (13, 1), (14, 1), (15, 1), (17, 3), (18, 1)] .nil))) (Sch.of [(10, 2), (11, 1), (12, 2), (13, 1), (14, 1), (15, 1), (17, 3), (18, 1)] .nil))) (Sch.of [(2, 2), (4, 1), (10, 2), (11, 1), (12, 2), (13, 1), (14, 1), (15, 1), (17, 3), (18, 1)] .nil))) 17
            (fun W => W.cell? ⟨w.heap.size, 1, none⟩ = some (.int .i64 a) ∧ W.cell? ⟨w.heap.size, 2, none⟩ = some (.int .i64 b)) (by kernel_rfl) (by kernel_rfl) ⟨x1, x2⟩ ?_
          simp only [Sch.of]
          have B_wr : Below wr.heap.size wr wr.drew := Below.drew (Below.refl _ _)
          clear hz0 x1 x2
          (repeat (first | ((refine fork_pure (v := ?_) rfl rfl (fun W => ?_) ?_); rotate_left; focus (go_simp; (try with_reducible rfl); done); (try simp only [Act.put, List.setIfInBounds_toArray, List.set_cons_zero, List.set_cons_succ])) | ((refine fork_read (v := ?_) rfl rfl (fun W hW => ?_) ?_); rotate_left; focus ((try dsimp only at hW); go_simp; (try with_reducible rfl); done); (try simp only [Act.put, List.setIfInBounds_toArray, List.set_cons_zero, List.set_cons_succ]))))
          refine fork_both rfl rfl rfl rfl (fun K hK => ?_) (fun K hK => ?_)
          · skip
            go_simp
            (with_reducible refine (HPA.out _).mono ?_)
            rintro e w11 ⟨rfl, hb_w11⟩
            go_simp
            have B_w11 : Below wr.heap.size wr w11 := Below.trans' B_wr hb_w11 B_wr.size
            try (have KT := (hb_w11.block qb (by have := (Array.getElem?_eq_some_iff.1 KT).1; omega)).trans KT)
            refine hK _ _ (by have h := HX.out _ (Below.trans' hbr B_w11 hsr); exact ⟨h.1, h.2.1⟩) ?_
            clear hK K hb_w11
            (repeat (first | ((refine fork_pure (v := ?_) rfl rfl (fun W => ?_) ?_); rotate_left; focus (go_simp; (try with_reducible rfl); done); (try simp only [Act.put, List.setIfInBounds_toArray, List.set_cons_zero, List.set_cons_succ])) | ((refine fork_read (v := ?_) rfl rfl (fun W hW => ?_) ?_); rotate_left; focus ((try dsimp only at hW); go_simp; (try with_reducible rfl); done); (try simp only [Act.put, List.setIfInBounds_toArray, List.set_cons_zero, List.set_cons_succ]))))
            refine fork_both rfl rfl rfl rfl (fun K hK => ?_) (fun K hK => ?_)
            · skip
              go_simp
              (with_reducible refine (HPD.out _).mono ?_)
              rintro e w12 ⟨rfl, hb_w12⟩
              go_simp
              have B_w12 : Below wr.heap.size wr w12 := Below.trans' B_w11 hb_w12 B_w11.size
              try (have KT := (hb_w12.block qb (by have := (Array.getElem?_eq_some_iff.1 KT).1; omega)).trans KT)
              refine hK _ _ (by have h := HX.out _ (Below.trans' hbr B_w12 hsr); exact ⟨h.1, h.2.1⟩) ?_
              clear hK K hb_w12
              (repeat (first | ((refine fork_pure (v := ?_) rfl rfl (fun W => ?_) ?_); rotate_left; focus (go_simp; (try with_reducible rfl); done); (try simp only [Act.put, List.setIfInBounds_toArray, List.set_cons_zero, List.set_cons_succ])) | ((refine fork_read (v := ?_) rfl rfl (fun W hW => ?_) ?_); rotate_left; focus ((try dsimp only at hW); go_simp; (try with_reducible rfl); done); (try simp only [Act.put, List.setIfInBounds_toArray, List.set_cons_zero, List.set_cons_succ]))))
              refine fork_both rfl rfl rfl rfl (fun K hK => ?_) (fun K hK => ?_)
              · skip
                go_simp
                (with_reducible refine (HOG.out _).mono ?_)
                rintro e w13 ⟨rfl, hb_w13⟩
                go_simp
                have B_w13 : Below wr.heap.size wr w13 := Below.trans' B_w12 hb_w13 B_w12.size
                try (have KT := (hb_w13.block qb (by have := (Array.getElem?_eq_some_iff.1 KT).1; omega)).trans KT)
                refine hK _ _ (by have h := HX.out _ (Below.trans' hbr B_w13 hsr); exact ⟨h.1, h.2.1⟩) ?_
                clear hK K hb_w13
                (repeat (first | ((refine fork_pure (v := ?_) rfl rfl (fun W => ?_) ?_); rotate_left; focus (go_simp; (try with_reducible rfl); done); (try simp only [Act.put, List.setIfInBounds_toArray, List.set_cons_zero, List.set_cons_succ])) | ((refine fork_read (v := ?_) rfl rfl (fun W hW => ?_) ?_); rotate_left; focus ((try dsimp only at hW); go_simp; (try with_reducible rfl); done); (try simp only [Act.put, List.setIfInBounds_toArray, List.set_cons_zero, List.set_cons_succ]))))
                refine fork_does rfl rfl (fun K hK => ?_)
                go_simp
                obtain ⟨W14, hW⟩ : ∃ W', W' = w13.alloc (.cells #[.int .i64 0, .int .i64 0, .int .i64 0, .int .i64 0, .int .i64 0, .int .i64 0] 38) := ⟨_, rfl⟩
                have B_W14 : Below wr.heap.size wr W14 := by rw [hW]; exact Below.trans' B_w13 ((Below.refl _ _).alloc (Nat.le_refl _) _) B_w13.size
                have KT : W14.heap[w13.heap.size]? = some (.cells #[.int .i64 0, .int .i64 0, .int .i64 0, .int .i64 0, .int .i64 0, .int .i64 0] 38) := by rw [hW]; exact heap_new _ _ rfl
                rw [← hW]
                refine hK _ _ (by have h := HX.out _ (Below.trans' hbr B_W14 hsr); exact ⟨h.1, h.2.1⟩) ?_
                clear hK K hW
                obtain ⟨qb, htb⟩ : ∃ qb, w13.heap.size = qb := ⟨_, rfl⟩
                have hlq : wr.heap.size ≤ qb := by rw [← htb]; exact B_w13.size
                rw [htb] at KT ⊢
                clear htb
                (repeat (first | ((refine fork_pure (v := ?_) rfl rfl (fun W => ?_) ?_); rotate_left; focus (go_simp; (try with_reducible rfl); done); (try simp only [Act.put, List.setIfInBounds_toArray, List.set_cons_zero, List.set_cons_succ])) | ((refine fork_read (v := ?_) rfl rfl (fun W hW => ?_) ?_); rotate_left; focus ((try dsimp only at hW); go_simp; (try with_reducible rfl); done); (try simp only [Act.put, List.setIfInBounds_toArray, List.set_cons_zero, List.set_cons_succ]))))
                obtain ⟨c0, c1, c2, c3, c4, c5, cf⟩ : W14.cell? ⟨qb, 0, none⟩ = some (.int .i64 0) ∧ W14.cell? ⟨qb, 1, none⟩ = some (.int .i64 0) ∧ W14.cell? ⟨qb, 2, none⟩ = some (.int .i64 0) ∧ W14.cell? ⟨qb, 3, none⟩ = some (.int .i64 0) ∧ W14.cell? ⟨qb, 4, none⟩ = some (.int .i64 0) ∧ W14.cell? ⟨qb, 5, none⟩ = some (.int .i64 0) ∧ ∀ o, W14.frozen? ⟨qb, o, none⟩ = false := by simp [World.cell?, World.frozen?, KT]
                have HKT := Lib.hid KT
                clear KT
                refine fork_last rfl rfl (fun K hK => ?_)
                go_simp
                refine hK _ _ ?_
                clear hK K
                (repeat (first | ((refine fork_pure (v := ?_) rfl rfl (fun W => ?_) ?_); rotate_left; focus (go_simp; (try with_reducible rfl); done); (try simp only [Act.put, List.setIfInBounds_toArray, List.set_cons_zero, List.set_cons_succ])) | ((refine fork_read (v := ?_) rfl rfl (fun W hW => ?_) ?_); rotate_left; focus ((try dsimp only at hW); go_simp; (try with_reducible rfl); done); (try simp only [Act.put, List.setIfInBounds_toArray, List.set_cons_zero, List.set_cons_succ]))))
                refine fork_end ?_
                go_wp2_with fail
                go_meet
                exact ⟨qb, rfl, rfl, Lib.hid ⟨(((((B_W14.setCell hlq _).setCell hlq _).setCell hlq _).setCell hlq _).setCell hlq _).setCell hlq _, hlq, roll_box HKT.out⟩⟩
              · skip
                go_simp
                obtain ⟨W13, hW⟩ : ∃ W', W' = w12.alloc (.cells #[.int .i64 0, .int .i64 0, .int .i64 0, .int .i64 0, .int .i64 0, .int .i64 0] 38) := ⟨_, rfl⟩
                have B_W13 : Below wr.heap.size wr W13 := by rw [hW]; exact Below.trans' B_w12 ((Below.refl _ _).alloc (Nat.le_refl _) _) B_w12.size
                have KT : W13.heap[w12.heap.size]? = some (.cells #[.int .i64 0, .int .i64 0, .int .i64 0, .int .i64 0, .int .i64 0, .int .i64 0] 38) := by rw [hW]; exact heap_new _ _ rfl
                rw [← hW]
                refine hK _ _ (by have h := HX.out _ (Below.trans' hbr B_W13 hsr); exact ⟨h.1, h.2.1⟩) ?_
                clear hK K hW
                obtain ⟨qb, htb⟩ : ∃ qb, w12.heap.size = qb := ⟨_, rfl⟩
                have hlq : wr.heap.size ≤ qb := by rw [← htb]; exact B_w12.size
                rw [htb] at KT ⊢
                clear htb
                (repeat (first | ((refine fork_pure (v := ?_) rfl rfl (fun W => ?_) ?_); rotate_left; focus (go_simp; (try with_reducible rfl); done); (try simp only [Act.put, List.setIfInBounds_toArray, List.set_cons_zero, List.set_cons_succ])) | ((refine fork_read (v := ?_) rfl rfl (fun W hW => ?_) ?_); rotate_left; focus ((try dsimp only at hW); go_simp; (try with_reducible rfl); done); (try simp only [Act.put, List.setIfInBounds_toArray, List.set_cons_zero, List.set_cons_succ]))))
                refine fork_does rfl rfl (fun K hK => ?_)
                go_simp
                (with_reducible refine (HOG.out _).mono ?_)
                rintro e w14 ⟨rfl, hb_w14⟩
                go_simp
                have B_w14 : Below wr.heap.size wr w14 := Below.trans' B_W13 hb_w14 B_W13.size
                try (have KT := (hb_w14.block qb (by have := (Array.getElem?_eq_some_iff.1 KT).1; omega)).trans KT)
                refine hK _ _ (by have h := HX.out _ (Below.trans' hbr B_w14 hsr); exact ⟨h.1, h.2.1⟩) ?_
                clear hK K hb_w14
                (repeat (first | ((refine fork_pure (v := ?_) rfl rfl (fun W => ?_) ?_); rotate_left; focus (go_simp; (try with_reducible rfl); done); (try simp only [Act.put, List.setIfInBounds_toArray, List.set_cons_zero, List.set_cons_succ])) | ((refine fork_read (v := ?_) rfl rfl (fun W hW => ?_) ?_); rotate_left; focus ((try dsimp only at hW); go_simp; (try with_reducible rfl); done); (try simp only [Act.put, List.setIfInBounds_toArray, List.set_cons_zero, List.set_cons_succ]))))
                obtain ⟨c0, c1, c2, c3, c4, c5, cf⟩ : w14.cell? ⟨qb, 0, none⟩ = some (.int .i64 0) ∧ w14.cell? ⟨qb, 1, none⟩ = some (.int .i64 0) ∧ w14.cell? ⟨qb, 2, none⟩ = some (.int .i64 0) ∧ w14.cell? ⟨qb, 3, none⟩ = some (.int .i64 0) ∧ w14.cell? ⟨qb, 4, none⟩ = some (.int .i64 0) ∧ w14.cell? ⟨qb, 5, none⟩ = some (.int .i64 0) ∧ ∀ o, w14.frozen? ⟨qb, o, none⟩ = false := by simp [World.cell?, World.frozen?, KT]
                have HKT := Lib.hid KT
                clear KT
                refine fork_last rfl rfl (fun K hK => ?_)
                go_simp
                refine hK _ _ ?_
                clear hK K
                (repeat (first | ((refine fork_pure (v := ?_) rfl rfl (fun W => ?_) ?_); rotate_left; focus (go_simp; (try with_reducible rfl); done); (try simp only [Act.put, List.setIfInBounds_toArray, List.set_cons_zero, List.set_cons_succ])) | ((refine fork_read (v := ?_) rfl rfl (fun W hW => ?_) ?_); rotate_left; focus ((try dsimp only at hW); go_simp; (try with_reducible rfl); done); (try simp only [Act.put, List.setIfInBounds_toArray, List.set_cons_zero, List.set_cons_succ]))))
                refine fork_end ?_
                go_wp2_with fail
                go_meet
                exact ⟨qb, rfl, rfl, Lib.hid ⟨(((((B_w14.setCell hlq _).setCell hlq _).setCell hlq _).setCell hlq _).setCell hlq _).setCell hlq _, hlq, roll_box HKT.out⟩⟩
            · skip
              go_simp
              obtain ⟨W12, hW⟩ : ∃ W', W' = w11.alloc (.cells #[.int .i64 0, .int .i64 0, .int .i64 0, .int .i64 0, .int .i64 0, .int .i64 0] 38) := ⟨_, rfl⟩
              have B_W12 : Below wr.heap.size wr W12 := by rw [hW]; exact Below.trans' B_w11 ((Below.refl _ _).alloc (Nat.le_refl _) _) B_w11.size
              have KT : W12.heap[w11.heap.size]? = some (.cells #[.int .i64 0, .int .i64 0, .int .i64 0, .int .i64 0, .int .i64 0, .int .i64 0] 38) := by rw [hW]; exact heap_new _ _ rfl
              rw [← hW]
              refine hK _ _ (by have h := HX.out _ (Below.trans' hbr B_W12 hsr); exact ⟨h.1, h.2.1⟩) ?_
              clear hK K hW
              obtain ⟨qb, htb⟩ : ∃ qb, w11.heap.size = qb := ⟨_, rfl⟩
              have hlq : wr.heap.size ≤ qb := by rw [← htb]; exact B_w11.size
              rw [htb] at KT ⊢
              clear htb
              (repeat (first | ((refine fork_pure (v := ?_) rfl rfl (fun W => ?_) ?_); rotate_left; focus (go_simp; (try with_reducible rfl); done); (try simp only [Act.put, List.setIfInBounds_toArray, List.set_cons_zero, List.set_cons_succ])) | ((refine fork_read (v := ?_) rfl rfl (fun W hW => ?_) ?_); rotate_left; focus ((try dsimp only at hW); go_simp; (try with_reducible rfl); done); (try simp only [Act.put, List.setIfInBounds_toArray, List.set_cons_zero, List.set_cons_succ]))))
              refine fork_does rfl rfl (fun K hK => ?_)
              go_simp
              (with_reducible refine (HPD.out _).mono ?_)
              rintro e w13 ⟨rfl, hb_w13⟩
              go_simp
              have B_w13 : Below wr.heap.size wr w13 := Below.trans' B_W12 hb_w13 B_W12.size
              try (have KT := (hb_w13.block qb (by have := (Array.getElem?_eq_some_iff.1 KT).1; omega)).trans KT)
              refine hK _ _ (by have h := HX.out _ (Below.trans' hbr B_w13 hsr); exact ⟨h.1, h.2.1⟩) ?_
              clear hK K hb_w13
              (repeat (first | ((refine fork_pure (v := ?_) rfl rfl (fun W => ?_) ?_); rotate_left; focus (go_simp; (try with_reducible rfl); done); (try simp only [Act.put, List.setIfInBounds_toArray, List.set_cons_zero, List.set_cons_succ])) | ((refine fork_read (v := ?_) rfl rfl (fun W hW => ?_) ?_); rotate_left; focus ((try dsimp only at hW); go_simp; (try with_reducible rfl); done); (try simp only [Act.put, List.setIfInBounds_toArray, List.set_cons_zero, List.set_cons_succ]))))
              refine fork_does rfl rfl (fun K hK => ?_)
              go_simp
              (with_reducible refine (HOG.out _).mono ?_)
              rintro e w14 ⟨rfl, hb_w14⟩
              go_simp
              have B_w14 : Below wr.heap.size wr w14 := Below.trans' B_w13 hb_w14 B_w13.size
              try (have KT := (hb_w14.block qb (by have := (Array.getElem?_eq_some_iff.1 KT).1; omega)).trans KT)
              refine hK _ _ (by have h := HX.out _ (Below.trans' hbr B_w14 hsr); exact ⟨h.1, h.2.1⟩) ?_
              clear hK K hb_w14
              (repeat (first | ((refine fork_pure (v := ?_) rfl rfl (fun W => ?_) ?_); rotate_left; focus (go_simp; (try with_reducible rfl); done); (try simp only [Act.put, List.setIfInBounds_toArray, List.set_cons_zero, List.set_cons_succ])) | ((refine fork_read (v := ?_) rfl rfl (fun W hW => ?_) ?_); rotate_left; focus ((try dsimp only at hW); go_simp; (try with_reducible rfl); done); (try simp only [Act.put, List.setIfInBounds_toArray, List.set_cons_zero, List.set_cons_succ]))))
              obtain ⟨c0, c1, c2, c3, c4, c5, cf⟩ : w14.cell? ⟨qb, 0, none⟩ = some (.int .i64 0) ∧ w14.cell? ⟨qb, 1, none⟩ = some (.int .i64 0) ∧ w14.cell? ⟨qb, 2, none⟩ = some (.int .i64 0) ∧ w14.cell? ⟨qb, 3, none⟩ = some (.int .i64 0) ∧ w14.cell? ⟨qb, 4, none⟩ = some (.int .i64 0) ∧ w14.cell? ⟨qb, 5, none⟩ = some (.int .i64 0) ∧ ∀ o, w14.frozen? ⟨qb, o, none⟩ = false := by simp [World.cell?, World.frozen?, KT]
              have HKT := Lib.hid KT
              clear KT
              refine fork_last rfl rfl (fun K hK => ?_)
              go_simp
              refine hK _ _ ?_
              clear hK K
              (repeat (first | ((refine fork_pure (v := ?_) rfl rfl (fun W => ?_) ?_); rotate_left; focus (go_simp; (try with_reducible rfl); done); (try simp only [Act.put, List.setIfInBounds_toArray, List.set_cons_zero, List.set_cons_succ])) | ((refine fork_read (v := ?_) rfl rfl (fun W hW => ?_) ?_); rotate_left; focus ((try dsimp only at hW); go_simp; (try with_reducible rfl); done); (try simp only [Act.put, List.setIfInBounds_toArray, List.set_cons_zero, List.set_cons_succ]))))
              refine fork_end ?_
              go_wp2_with fail
              go_meet
              exact ⟨qb, rfl, rfl, Lib.hid ⟨(((((B_w14.setCell hlq _).setCell hlq _).setCell hlq _).setCell hlq _).setCell hlq _).setCell hlq _, hlq, roll_box HKT.out⟩⟩
          · skip
            go_simp
            obtain ⟨W11, hW⟩ : ∃ W', W' = (wr.alloc (.cells #[.int .i64 0, .int .i64 0, .int .i64 0, .int .i64 0, .int .i64 0, .int .i64 0] 38)).drew := ⟨_, rfl⟩
            have B_W11 : Below wr.heap.size wr W11 := by rw [hW]; exact (by repeat (first | with_reducible exact Below.refl _ _ | with_reducible assumption | with_reducible refine below_dn ?_ _ | with_reducible refine Below.drew ?_ | with_reducible refine Below.alloc ?_ (by first | omega | (simp; done) | (simp; omega) | (simp [drew_size]; done) | (simp [drew_size]; omega)) _ | with_reducible refine Below.setCell ?_ (by first | omega | (simp; done) | (simp; omega) | (simp [drew_size]; done) | (simp [drew_size]; omega)) _))
            have KT : W11.heap[wr.heap.size]? = some (.cells #[.int .i64 0, .int .i64 0, .int .i64 0, .int .i64 0, .int .i64 0, .int .i64 0] 38) := by rw [hW]; exact heap_new _ _ rfl
            rw [← hW]
            refine hK _ _ (by have h := HX.out _ (Below.trans' hbr B_W11 hsr); exact ⟨h.1, h.2.1⟩) ?_
            clear hK K hW
            obtain ⟨qb, htb⟩ : ∃ qb, wr.heap.size = qb := ⟨_, rfl⟩
            have hlq : wr.heap.size ≤ qb := by rw [← htb]; exact B_wr.size
            rw [htb] at KT ⊢
            clear htb
            (repeat (first | ((refine fork_pure (v := ?_) rfl rfl (fun W => ?_) ?_); rotate_left; focus (go_simp; (try with_reducible rfl); done); (try simp only [Act.put, List.setIfInBounds_toArray, List.set_cons_zero, List.set_cons_succ])) | ((refine fork_read (v := ?_) rfl rfl (fun W hW => ?_) ?_); rotate_left; focus ((try dsimp only at hW); go_simp; (try with_reducible rfl); done); (try simp only [Act.put, List.setIfInBounds_toArray, List.set_cons_zero, List.set_cons_succ]))))
            refine fork_does rfl rfl (fun K hK => ?_)
            go_simp
            (with_reducible refine (HPA.out _).mono ?_)
            rintro e w12 ⟨rfl, hb_w12⟩
            go_simp
            have B_w12 : Below wr.heap.size wr w12 := Below.trans' B_W11 hb_w12 B_W11.size
            try (have KT := (hb_w12.block qb (by have := (Array.getElem?_eq_some_iff.1 KT).1; omega)).trans KT)
            refine hK _ _ (by have h := HX.out _ (Below.trans' hbr B_w12 hsr); exact ⟨h.1, h.2.1⟩) ?_
            clear hK K hb_w12
            (repeat (first | ((refine fork_pure (v := ?_) rfl rfl (fun W => ?_) ?_); rotate_left; focus (go_simp; (try with_reducible rfl); done); (try simp only [Act.put, List.setIfInBounds_toArray, List.set_cons_zero, List.set_cons_succ])) | ((refine fork_read (v := ?_) rfl rfl (fun W hW => ?_) ?_); rotate_left; focus ((try dsimp only at hW); go_simp; (try with_reducible rfl); done); (try simp only [Act.put, List.setIfInBounds_toArray, List.set_cons_zero, List.set_cons_succ]))))
            refine fork_does rfl rfl (fun K hK => ?_)
            go_simp
            (with_reducible refine (HPD.out _).mono ?_)
            rintro e w13 ⟨rfl, hb_w13⟩
            go_simp
            have B_w13 : Below wr.heap.size wr w13 := Below.trans' B_w12 hb_w13 B_w12.size
            try (have KT := (hb_w13.block qb (by have := (Array.getElem?_eq_some_iff.1 KT).1; omega)).trans KT)
            refine hK _ _ (by have h := HX.out _ (Below.trans' hbr B_w13 hsr); exact ⟨h.1, h.2.1⟩) ?_
            clear hK K hb_w13
            (repeat (first | ((refine fork_pure (v := ?_) rfl rfl (fun W => ?_) ?_); rotate_left; focus (go_simp; (try with_reducible rfl); done); (try simp only [Act.put, List.setIfInBounds_toArray, List.set_cons_zero, List.set_cons_succ])) | ((refine fork_read (v := ?_) rfl rfl (fun W hW => ?_) ?_); rotate_left; focus ((try dsimp only at hW); go_simp; (try with_reducible rfl); done); (try simp only [Act.put, List.setIfInBounds_toArray, List.set_cons_zero, List.set_cons_succ]))))
            refine fork_does rfl rfl (fun K hK => ?_)
            go_simp
            (with_reducible refine (HOG.out _).mono ?_)
            rintro e w14 ⟨rfl, hb_w14⟩
            go_simp
            have B_w14 : Below wr.heap.size wr w14 := Below.trans' B_w13 hb_w14 B_w13.size
            try (have KT := (hb_w14.block qb (by have := (Array.getElem?_eq_some_iff.1 KT).1; omega)).trans KT)
            refine hK _ _ (by have h := HX.out _ (Below.trans' hbr B_w14 hsr); exact ⟨h.1, h.2.1⟩) ?_
            clear hK K hb_w14
            (repeat (first | ((refine fork_pure (v := ?_) rfl rfl (fun W => ?_) ?_); rotate_left; focus (go_simp; (try with_reducible rfl); done); (try simp only [Act.put, List.setIfInBounds_toArray, List.set_cons_zero, List.set_cons_succ])) | ((refine fork_read (v := ?_) rfl rfl (fun W hW => ?_) ?_); rotate_left; focus ((try dsimp only at hW); go_simp; (try with_reducible rfl); done); (try simp only [Act.put, List.setIfInBounds_toArray, List.set_cons_zero, List.set_cons_succ]))))
            obtain ⟨c0, c1, c2, c3, c4, c5, cf⟩ : w14.cell? ⟨qb, 0, none⟩ = some (.int .i64 0) ∧ w14.cell? ⟨qb, 1, none⟩ = some (.int .i64 0) ∧ w14.cell? ⟨qb, 2, none⟩ = some (.int .i64 0) ∧ w14.cell? ⟨qb, 3, none⟩ = some (.int .i64 0) ∧ w14.cell? ⟨qb, 4, none⟩ = some (.int .i64 0) ∧ w14.cell? ⟨qb, 5, none⟩ = some (.int .i64 0) ∧ ∀ o, w14.frozen? ⟨qb, o, none⟩ = false := by simp [World.cell?, World.frozen?, KT]
            have HKT := Lib.hid KT
            clear KT
            refine fork_last rfl rfl (fun K hK => ?_)
            go_simp
            refine hK _ _ ?_
            clear hK K
            (repeat (first | ((refine fork_pure (v := ?_) rfl rfl (fun W => ?_) ?_); rotate_left; focus (go_simp; (try with_reducible rfl); done); (try simp only [Act.put, List.setIfInBounds_toArray, List.set_cons_zero, List.set_cons_succ])) | ((refine fork_read (v := ?_) rfl rfl (fun W hW => ?_) ?_); rotate_left; focus ((try dsimp only at hW); go_simp; (try with_reducible rfl); done); (try simp only [Act.put, List.setIfInBounds_toArray, List.set_cons_zero, List.set_cons_succ]))))
            refine fork_end ?_
            go_wp2_with fail
            go_meet
            exact ⟨qb, rfl, rfl, Lib.hid ⟨(((((B_w14.setCell hlq _).setCell hlq _).setCell hlq _).setCell hlq _).setCell hlq _).setCell hlq _, hlq, roll_box HKT.out⟩⟩
        case rest =>
          obtain ⟨qb, rfl, rfl, HQ⟩ := hcut
          obtain ⟨hbq, hlq, hqb⟩ := HQ.out
          obtain ⟨-, hrbox, hck, hc1, hc2⟩ := HRR.out
          have htl := (Array.getElem?_eq_some_iff.1 hrbox).1
          have hrb := (hbq.block tb htl).trans hrbox
          have hx := pt_check (time := T + (j : Int)) (value := P - 150) (by omega) (by omega) (by omega) (by omega)
          obtain ⟨hm1, hm2⟩ := merge_ok hck hx (by show r.c + 1 ≤ 1073741824; omega)
          have HM := Lib.hid (merge_any r ⟨1, P - 150, P - 150, P - 150, T + (j : Int), P - 150⟩ wc)
          rw [hm1] at HM
          have hjc : (r.join ⟨1, P - 150, P - 150, P - 150, T + (j : Int), P - 150⟩).c = r.c + 1 := join_c _ _
          obtain ⟨M, hM⟩ : ∃ M, r.join ⟨1, P - 150, P - 150, P - 150, T + (j : Int), P - 150⟩ = M := ⟨_, rfl⟩
          rw [hM] at hm2 HM hjc
          obtain ⟨c0, c1, c2, c3, c4, c5⟩ : wc.cell? ⟨tb, 0, none⟩ = some (.int .i64 r.c) ∧ wc.cell? ⟨tb, 1, none⟩ = some (.int .i64 r.s) ∧ wc.cell? ⟨tb, 2, none⟩ = some (.int .i64 r.mi) ∧ wc.cell? ⟨tb, 3, none⟩ = some (.int .i64 r.ma) ∧ wc.cell? ⟨tb, 4, none⟩ = some (.int .i64 r.t) ∧ wc.cell? ⟨tb, 5, none⟩ = some (.int .i64 r.l) := by simp [World.cell?, hrb]
          obtain ⟨q0, q1, q2, q3, q4, q5⟩ : wc.cell? ⟨qb, 0, none⟩ = some (.int .i64 1) ∧ wc.cell? ⟨qb, 1, none⟩ = some (.int .i64 (P - 150)) ∧ wc.cell? ⟨qb, 2, none⟩ = some (.int .i64 (P - 150)) ∧ wc.cell? ⟨qb, 3, none⟩ = some (.int .i64 (P - 150)) ∧ wc.cell? ⟨qb, 4, none⟩ = some (.int .i64 (T + (j : Int))) ∧ wc.cell? ⟨qb, 5, none⟩ = some (.int .i64 (P - 150)) := by simp [World.cell?, hqb]
          have HF := Lib.hid (And.intro hm2 (And.intro hjc (And.intro hc1 hc2)))
          have HMM := Lib.hid hM
          have HRB := Lib.hid hrb
          have HBQ := Lib.hid (Below.trans' hbr hbq hsr)
          have hlw : tb < wc.heap.size := Nat.lt_of_lt_of_le htl hbq.size
          clear hm1 hm2 hjc hM hc1 hc2 hck hrb hrbox hqb hbq hx
          go_wp2_with (go_at_call 21; (with_reducible refine HM.out.mono ?_); rintro e w9 hw9; obtain ⟨rfl, hb9⟩ := hw9; have k9 := (hb9.block tb hlw).trans HRB.out; obtain ⟨e0, e1, e2, e3, e4, e5, ef⟩ : w9.cell? ⟨tb, 0, none⟩ = some (.int .i64 r.c) ∧ w9.cell? ⟨tb, 1, none⟩ = some (.int .i64 r.s) ∧ w9.cell? ⟨tb, 2, none⟩ = some (.int .i64 r.mi) ∧ w9.cell? ⟨tb, 3, none⟩ = some (.int .i64 r.ma) ∧ w9.cell? ⟨tb, 4, none⟩ = some (.int .i64 r.t) ∧ w9.cell? ⟨tb, 5, none⟩ = some (.int .i64 r.l) ∧ ∀ o, w9.frozen? ⟨tb, o, none⟩ = false := by simp [World.cell?, World.frozen?, k9])
          go_roundg (n - (j + 1))
          case measure => omega
          case rel =>
            have B9 := Below.trans' HBQ.out hb9 HBQ.out.size
            exact ⟨j + 1, by omega, rfl, by go_num, Lib.hid ⟨M, (((((B9.setCell hlo _).setCell hlo _).setCell hlo _).setCell hlo _).setCell hlo _).setCell hlo _, roll_box k9, HF.out.1, by have := HF.out.2; omega, by have := HF.out.2; omega, by rw [← HMM.out, HRN.out]; show _ = (rollN a b j).join (rollStep a b j); unfold rollStep; rw [HPP.out.1, HPP.out.2, HTV.out.1]⟩⟩
      · obtain ⟨c0, c1, c2, c3, c4, c5⟩ : wr.cell? ⟨tb, 0, none⟩ = some (.int .i64 r.c) ∧ wr.cell? ⟨tb, 1, none⟩ = some (.int .i64 r.s) ∧ wr.cell? ⟨tb, 2, none⟩ = some (.int .i64 r.mi) ∧ wr.cell? ⟨tb, 3, none⟩ = some (.int .i64 r.ma) ∧ wr.cell? ⟨tb, 4, none⟩ = some (.int .i64 r.t) ∧ wr.cell? ⟨tb, 5, none⟩ = some (.int .i64 r.l) := by simp [World.cell?, hbox]
        have hk1 := (hbr.block (w.heap.size + 1) (by have := (Array.getElem?_eq_some_iff.1 HR.out).1; omega)).trans HR.out
        obtain ⟨z0, z1, z2, z3, z4, z5, zf⟩ : wr.cell? ⟨w.heap.size + 1, 0, none⟩ = some (.int .i64 0) ∧ wr.cell? ⟨w.heap.size + 1, 1, none⟩ = some (.int .i64 0) ∧ wr.cell? ⟨w.heap.size + 1, 2, none⟩ = some (.int .i64 0) ∧ wr.cell? ⟨w.heap.size + 1, 3, none⟩ = some (.int .i64 0) ∧ wr.cell? ⟨w.heap.size + 1, 4, none⟩ = some (.int .i64 0) ∧ wr.cell? ⟨w.heap.size + 1, 5, none⟩ = some (.int .i64 0) ∧ ∀ o, wr.frozen? ⟨w.heap.size + 1, o, none⟩ = false := by simp [World.cell?, World.frozen?, hk1]
        have HE := Lib.hid (And.intro hck (And.intro hc1 hc2))
        have hbw : Below w.heap.size w wr := Below.trans' HB0.out hbr HB0.out.size
        clear hbox hk1 hck hc1 hc2
        go_wp2_with fail
        refine bodyPost_ret (v := r.v) (by simp [results, Try.results20, go_sem, Roll.v, *]) rfl ⟨⟨r, rfl, HE.out.1, HE.out.2.1, by have := HE.out.2.2; omega, by rw [HRN.out]; unfold rollupF; rw [HNN.out]; congr 1; omega⟩, (by repeat (first | with_reducible exact Below.refl _ _ | with_reducible assumption | with_reducible refine below_dn ?_ _ | with_reducible refine Below.drew ?_ | with_reducible refine Below.alloc ?_ (by first | omega | (simp; done) | (simp; omega) | (simp [drew_size]; done) | (simp [drew_size]; omega)) _ | with_reducible refine Below.setCell ?_ (by first | omega | (simp; done) | (simp; omega) | (simp [drew_size]; done) | (simp [drew_size]; omega)) _))⟩
theorem rollup_any {k a b c : Int} {w : World} (ha : -9223372036854775808 ≤ a ∧ a ≤ 9223372036854775807) (hb : -9223372036854775808 ≤ b ∧ b ≤ 9223372036854775807) (hc : -9223372036854775808 ≤ c ∧ c ≤ 9223372036854775807) :
    Calls Try.prog 20 #[.agg #[.int .i64 k, .int .i64 a, .int .i64 b, .int .i64 c]] w fun e w' => (∃ r : Roll, e = .returned r.v ∧ rollCheck r = 0 ∧ 1 ≤ r.c ∧ r.c ≤ 4) ∧ Below w.heap.size w w' :=
  (rollup_is ha hb hc).mono fun _ _ ⟨⟨r, h1, h2, h3, h4, _⟩, h5⟩ => ⟨⟨r, h1, h2, h3, h4⟩, h5⟩
end Go.Proofs.Ytggcinmjmkfboaa

/- Rollups in blocks of their own; Rollup and Merge at literals. -/
namespace Go.Proofs.Ytggcinmjmkfboaa
open Go.RowKit

/-- A rollup in a block of its own, whatever comes above. -/
structure BoxAt (w : World) (q : Nat) (r : Roll) : Prop where
  box : w.heap[q]? = some (.cells #[.int .i64 r.c, .int .i64 r.s, .int .i64 r.mi, .int .i64 r.ma, .int .i64 r.t, .int .i64 r.l] 38)
theorem BoxAt.later {w w' : World} {q : Nat} {r : Roll} (h : BoxAt w q r) (hb : Below w.heap.size w w') : BoxAt w' q r := ⟨(hb.block q (Array.getElem?_eq_some_iff.1 h.box).1).trans h.box⟩
theorem BoxAt.cells {w : World} {q : Nat} {r : Roll} (h : BoxAt w q r) : w.cell? ⟨q, 0, none⟩ = some (.int .i64 r.c) ∧ w.cell? ⟨q, 1, none⟩ = some (.int .i64 r.s) ∧ w.cell? ⟨q, 2, none⟩ = some (.int .i64 r.mi) ∧ w.cell? ⟨q, 3, none⟩ = some (.int .i64 r.ma) ∧ w.cell? ⟨q, 4, none⟩ = some (.int .i64 r.t) ∧ w.cell? ⟨q, 5, none⟩ = some (.int .i64 r.l) := by
  have := h.box
  simp [World.cell?, this]
theorem BoxAt.new (w : World) (r : Roll) : BoxAt (w.alloc (.cells #[.int .i64 r.c, .int .i64 r.s, .int .i64 r.mi, .int .i64 r.ma, .int .i64 r.t, .int .i64 r.l] 38)) w.heap.size r := ⟨heap_new _ _ rfl⟩

structure RawAt (w : World) (q : Nat) (k a b c : Int) : Prop where
  box : w.heap[q]? = some (.cells #[.int .i64 k, .int .i64 a, .int .i64 b, .int .i64 c] 54)
theorem RawAt.later {w w' : World} {q : Nat} {k a b c : Int} (h : RawAt w q k a b c) (hb : Below w.heap.size w w') : RawAt w' q k a b c := ⟨(hb.block q (Array.getElem?_eq_some_iff.1 h.box).1).trans h.box⟩
theorem RawAt.cells {w : World} {q : Nat} {k a b c : Int} (h : RawAt w q k a b c) : w.cell? ⟨q, 0, none⟩ = some (.int .i64 k) ∧ w.cell? ⟨q, 1, none⟩ = some (.int .i64 a) ∧ w.cell? ⟨q, 2, none⟩ = some (.int .i64 b) ∧ w.cell? ⟨q, 3, none⟩ = some (.int .i64 c) := by
  have := h.box
  simp [World.cell?, this]
def I64 (n : Int) : Prop := -9223372036854775808 ≤ n ∧ n ≤ 9223372036854775807
theorem rollup_lit {k a b c : Int} {w : World} (ha : I64 a) (hb : I64 b) (hc : I64 c) : Calls Try.prog 20 #[.agg #[.int .i64 k, .int .i64 a, .int .i64 b, .int .i64 c]] w fun e w' => (∃ r : Roll, e = .returned (.agg #[.int .i64 r.c, .int .i64 r.s, .int .i64 r.mi, .int .i64 r.ma, .int .i64 r.t, .int .i64 r.l]) ∧ rollCheck r = 0 ∧ 1 ≤ r.c ∧ r.c ≤ 4) ∧ Below w.heap.size w w' := rollup_any ha hb hc
end Go.Proofs.Ytggcinmjmkfboaa
