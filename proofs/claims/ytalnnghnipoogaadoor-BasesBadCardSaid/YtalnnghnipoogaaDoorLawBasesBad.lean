/- The law BasesBad: what may not be is refused. -/
import Derived.Test.YtalnnghnipoogaaDoorKD
import Derived.Test.YtalnnghnipoogaaDoorKR
import Derived.Test.YtalnnghnipoogaaDoorTG
import Derived.Test.YtalnnghnipoogaaDoorSO
import Derived.Test.YtalnnghnipoogaaDoorRW
namespace Go.Proofs.YtalnnghnipoogaaDoor
open Go.RowKit

theorem emptyT_bad : treeFault (⟨[], 0⟩ : Tr) = 7 := by
  unfold treeFault
  rw [if_neg (by simp), if_neg]
  rintro ⟨l, h, hv, -⟩
  simp [vis, Tr.at?] at hv
def zeroBa : Ba := ⟨[], ⟨[], 0⟩, ⟨[], 0⟩, ⟨[], 0⟩, 0⟩
theorem zero_at (w : World) : BaseAt w (.agg #[.slice none 0 0, .slice none 0 0, .int .i64 0, .slice none 0 0, .int .i64 0, .slice none 0 0, .int .i64 0, .int .i64 0]) zeroBa :=
  ⟨_, _, _, _, rfl, SlAt.nil _ _ _ _, ⟨[], SlAt.nil _ _ _ _, rfl, fun i r x h => by simp at h⟩, ⟨[], SlAt.nil _ _ _ _, rfl, fun i r x h => by simp at h⟩, ⟨[], SlAt.nil _ _ _ _, rfl, fun i r x h => by simp at h⟩⟩
theorem zero_may : baseMay zeroBa = false := by
  cases h : baseMay zeroBa with
  | false => rfl
  | true =>
    obtain ⟨l, hl, -⟩ := base_trees h
    have := (bookR_some hl).1
    unfold allT at this
    rw [show zeroBa.t0 = ⟨[], 0⟩ from rfl, emptyT_bad] at this
    cases this
def aB : ByteArray := ⟨#[97]⟩
def neverB : ByteArray := ⟨#[110, 101, 118, 101, 114]⟩
def oddS (i : Nat) : ByteArray := if i = 0 then ⟨#[]⟩ else if i = 1 then ⟨#[67, 112, 117]⟩ else if i = 2 then ⟨#[97, 98, 99, 100, 101, 102, 103, 104, 105, 106, 107]⟩ else aB
def oddT (k : Int) (i : Nat) : Int := if i = 3 then -k else if i = 4 then 1048575 + k else 0
def oddV (k : Int) (i : Nat) : Int := if i = 5 then 1000000 + k else 0
def oddE (i : Nat) : Int := if i < 3 then 4 else 2
theorem odd_bad {b : Ba} {k : Int} {i : Nat} (hm : baseMay b = true) (hk : 1 ≤ k) (hi : i < 6) : addF b (oddS i) (oddT k i) (oddV k i) = oddE i := by
  unfold addF
  rw [if_neg (by rw [hm]; decide)]
  have hr : ∀ (t v : Int), ¬ (0 ≤ t ∧ t ≤ 1048575 ∧ -1000000 ≤ v ∧ v ≤ 1000000) → (rollOf t v).2 = 2 := fun t v h => by unfold rollOf; rw [if_neg h]
  obtain rfl | rfl | rfl | rfl | rfl | rfl : i = 0 ∨ i = 1 ∨ i = 2 ∨ i = 3 ∨ i = 4 ∨ i = 5 := by omega
  · exact if_pos (by decide)
  · exact if_pos (by decide)
  · exact if_pos (by decide)
  · rw [if_neg (by decide)]
    have := hr (oddT k 3) (oddV k 3) (by simp [oddT, oddV]; omega)
    rw [this]; rfl
  · rw [if_neg (by decide)]
    have := hr (oddT k 4) (oddV k 4) (by simp [oddT, oddV]; omega)
    rw [this]; rfl
  · rw [if_neg (by decide)]
    have := hr (oddT k 5) (oddV k 5) (by simp [oddT, oddV]; omega)
    rw [this]; rfl
theorem odd_cells {w : World} {ob i : Nat} {k : Int} (h : w.heap[ob]? = some (.cells #[.string ⟨#[]⟩, .int .i64 0, .int .i64 0, .string ⟨#[67, 112, 117]⟩, .int .i64 0, .int .i64 0, .string ⟨#[97, 98, 99, 100, 101, 102, 103, 104, 105, 106, 107]⟩, .int .i64 0, .int .i64 0, .string ⟨#[97]⟩, .int .i64 (-k), .int .i64 0, .string ⟨#[97]⟩, .int .i64 (1048575 + k), .int .i64 0, .string ⟨#[97]⟩, .int .i64 0, .int .i64 (1000000 + k)] 30)) (hi : i < 6) : w.cell? ⟨ob, i * 3, none⟩ = some (.string (oddS i)) ∧ w.cell? ⟨ob, i * 3 + 1, none⟩ = some (.int .i64 (oddT k i)) ∧ w.cell? ⟨ob, i * 3 + 2, none⟩ = some (.int .i64 (oddV k i)) := by
  obtain rfl | rfl | rfl | rfl | rfl | rfl : i = 0 ∨ i = 1 ∨ i = 2 ∨ i = 3 ∨ i = 4 ∨ i = 5 := by omega
  all_goals simp [World.cell?, h, oddS, oddT, oddV, aB]
theorem err_cell {w : World} {eb i : Nat} (h : w.heap[eb]? = some (.cells #[.int .i64 4, .int .i64 4, .int .i64 4, .int .i64 2, .int .i64 2, .int .i64 2] 32)) (hi : i < 6) : w.cell? ⟨eb, i, none⟩ = some (.int .i64 (oddE i)) := by
  obtain rfl | rfl | rfl | rfl | rfl | rfl : i = 0 ∨ i = 1 ∨ i = 2 ∨ i = 3 ∨ i = 4 ∨ i = 5 := by omega
  all_goals simp [World.cell?, h, oddE]
theorem odd_small (i : Nat) : (oddS i).size ≤ 140737488351232 := by
  unfold oddS
  split
  · decide
  · split
    · decide
    · split <;> decide
theorem idx_errs {ab aoff n cap j : Nat} {i : Int} (h : i = j) (hj : j < n) (w : World) : (Instr.indexAt 66 (.slice (some ⟨ab, aoff, none⟩) n cap) (.int .i64 i)).run Tryd.prog w = .ok (.pointer (some ⟨ab, aoff + j, none⟩)) w := by
  subst h
  go_simp
theorem picked6 (n : Int) : ∃ q : Nat, q < 6 ∧ picked n 6 = (q : Int) := by
  have := picked_range (n := n) (m := 6) (by decide)
  exact ⟨(picked n 6).toNat, by omega, by omega⟩
set_option maxRecDepth 100000 in
set_option maxHeartbeats 8000000 in
theorem basesBad_any {v : Value} {xs : List Rw} {wh n : Int} {w : World} (h : RwsAt w v xs) (hx : ∀ a ∈ xs, a.ok) (hwh : i64 wh) (hn : i64 n) (hsz : SizesAt w) :
    Calls Tryd.prog 7 #[v, .int .i64 wh, .int .i64 n] w fun e w' => e = .returned (.bool true) ∧ Below w.heap.size w w' := by
  obtain ⟨ao, cap, rfl⟩ := h.isSlice
  have HKB := Lib.hid (show Calls Tryd.prog 18 #[.slice ao xs.length cap, .int .i64 10] w (KbPost xs 10 w) from kBase_any (most := 10) h hx (by decide) hsz)
  have HSZ := Lib.hid hsz
  have hrk := picked_in n 100 (by decide)
  obtain ⟨q, hq⟩ : ∃ q, picked n 100 = q := ⟨_, rfl⟩
  have HPQ := Lib.hid fun W => (by have := picked_any2 n 100 W hn.1 hn.2 (by decide) (by decide); rw [hq] at this; exact this : Calls Tryd.prog 20 #[.int .i64 n, .int .i64 100] W fun e w' => e = .returned (.int .i64 q) ∧ Below W.heap.size W w')
  rw [hq] at hrk
  obtain ⟨k, hk⟩ : ∃ k, 1 + q = k := ⟨_, rfl⟩
  have hk1 : 1 ≤ k ∧ k ≤ 100 := by omega
  have hw1 : IntKind.i64.wrap (1 + q) = k := by rw [hk]; exact IntWalk.i64_in _ (by omega)
  have hw2 : IntKind.i64.wrap (-k) = -k := IntWalk.i64_in _ (by omega)
  have hw3 : IntKind.i64.wrap (1048575 + k) = 1048575 + k := IntWalk.i64_in _ (by omega)
  have hw4 : IntKind.i64.wrap (1000000 + k) = 1000000 + k := IntWalk.i64_in _ (by omega)
  have hw5 : IntKind.i64.wrap (k - 1) = k - 1 := IntWalk.i64_in _ (by omega)
  obtain ⟨i, hi, hie⟩ := picked6 wh
  have HPI := Lib.hid fun W => (by have := picked_any2 wh 6 W hwh.1 hwh.2 (by decide) (by decide); rw [hie] at this; exact this : Calls Tryd.prog 20 #[.int .i64 wh, .int .i64 6] W fun e w' => e = .returned (.int .i64 (i : Int)) ∧ Below W.heap.size W w')
  clear h hx hsz hn hwh hq hk hie
  go_enter Tryd.func7, Tryd.ntmps7
  go_upto_region 2 with (go_at_call 18; (with_reducible refine HKB.out.mono ?_); rintro e w1 ⟨hb1, sa, sc, g0, l0, p0, g1, l1, p1, g2, l2, p2, b, pa, pc, pts, rfl, hat, hown, hkb, heq⟩; have HHK := Lib.hid (And.intro hkb heq); clear hkb heq)
  obtain ⟨hkb, heq⟩ := HHK.out
  obtain ⟨W1, hW1⟩ : ∃ W1, W1 = w1.alloc (.cells (baCells sa b.names.length sc g0 l0 p0 g1 l1 p1 g2 l2 p2 b) 28) := ⟨_, rfl⟩
  have hb1' : Below w1.heap.size w1 W1 := by rw [hW1]; exact belowAuto
  have hbx : BxAt W1 w1.heap.size sa sc g0 l0 p0 g1 l1 p1 g2 l2 p2 b := by rw [hW1]; exact BxAt.new hat
  have HX1 := Lib.hid (show KxAt w w1.heap.size sa sc g0 l0 p0 g1 l1 p1 g2 l2 p2 b (.slice pa pts.length pc) pts W1 from ⟨Below.trans' hb1 hb1' hb1.size, hbx, hown.below hb1' (Nat.le_refl _)⟩)
  have hsm := base_names_small hkb heq
  have hl10 : pts.length ≤ 10 := by rw [heq, List.length_map, List.length_take]; omega
  obtain ⟨hn4, hnL⟩ := hkb.few (fun q hq => by
    rw [heq] at hq
    obtain ⟨r, -, rfl⟩ := List.mem_map.1 hq
    exact (pointF_ok r).1)
  rw [← hW1]
  obtain ⟨tb, htb⟩ : ∃ tb, w1.heap.size = tb := ⟨_, rfl⟩
  rw [htb] at HX1 ⊢
  have hmay := hkb.st.may
  have HAO := Lib.hid fun W (hx : KxAt w tb sa sc g0 l0 p0 g1 l1 p1 g2 l2 p2 b (.slice pa pts.length pc) pts W) => add_no (s := oddS i) (time := oddT k i) (value := oddV k i) hx.bx.at' hsm (odd_small i) (HSZ.out.below hx.below) (odd_bad hmay hk1.1 hi) (by unfold oddE; split <;> decide)
  have HAZ := Lib.hid fun W (hb : Below w.heap.size w W) => (show Calls Tryd.prog 12 #[.agg #[.slice none 0 0, .slice none 0 0, .int .i64 0, .slice none 0 0, .int .i64 0, .slice none 0 0, .int .i64 0, .int .i64 0], .agg #[.string ⟨#[97]⟩, .int .i64 0, .int .i64 0]] W fun x w' => Below W.heap.size W w' ∧ x = .returned (.tuple #[zeroB, .int .i64 7]) from
    add_no (s := aB) (zero_at W) (fun s hs => by cases hs) (by decide) (HSZ.out.below hb) (by unfold addF; rw [if_pos zero_may]) (by decide))
  have HTN := Lib.hid fun W (hx : KxAt w tb sa sc g0 l0 p0 g1 l1 p1 g2 l2 p2 b (.slice pa pts.length pc) pts W) => (by
    have hnn : neverB ∉ b.names := fun hh => by have := hnL _ hh; simp [nameL, neverB] at this
    obtain ⟨e1, e2⟩ := kb_none (a := 0) (z := 1) hkb hnn
    have := total_any (s := neverB) (a := 0) (z := 1) hx.bx.at' hsm (HSZ.out.below hx.below)
    rw [e1, e2] at this
    exact this : Calls Tryd.prog 24 #[.agg (baCells sa b.names.length sc g0 l0 p0 g1 l1 p1 g2 l2 p2 b), .string ⟨#[110, 101, 118, 101, 114]⟩, .int .i64 0, .int .i64 1] W fun e w' => Below W.heap.size W w' ∧ e = .returned (.tuple #[.agg #[.int .i64 0, .int .i64 0, .int .i64 0, .int .i64 0, .int .i64 0, .int .i64 0], .int .i64 6]))
  have HAC := Lib.hid fun W (hx : KxAt w tb sa sc g0 l0 p0 g1 l1 p1 g2 l2 p2 b (.slice pa pts.length pc) pts W) => (by
    have := baseAdd_ok (s := cpuB) (time := 20000) (value := 0) hx.bx.at' hsm (Nat.le_trans cpuB_may.2 (by decide)) (HSZ.out.below hx.below) hkb.st (by omega) cpuB_may.1 (by decide) (by decide) (by decide) (by decide) (by rw [hkb.floor]; decide) (fun _ => by omega)
    exact this : Calls Tryd.prog 12 #[.agg (baCells sa b.names.length sc g0 l0 p0 g1 l1 p1 g2 l2 p2 b), .agg #[.string ⟨#[99, 112, 117]⟩, .int .i64 20000, .int .i64 0]] W fun x w' => Below W.heap.size W w' ∧
      ∃ c xa xc y0 m0 q0 y1 m1 q1 y2 m2 q2, x = .returned (.tuple #[.agg (baCells xa c.names.length xc y0 m0 q0 y1 m1 q1 y2 m2 q2 c), .int .i64 0]) ∧ (∀ w'', Keep W.heap.size w' w'' → BaseAt w'' (.agg (baCells xa c.names.length xc y0 m0 q0 y1 m1 q1 y2 m2 q2 c)) c) ∧
        c.names = addNames b cpuB ∧ c.floor = b.floor ∧ Bst c (ins (bag (pts.map (entP b.names))) (addEnt b cpuB 20000 ⟨1, 0, 0, 0, 20000, 0⟩)) (pts.length + 1))
  have HKX := Lib.hid (And.intro hkb (And.intro hsm hl10))
  clear hW1 hb1 hb1' hbx hat hown hkb heq htb hsm hl10 hmay hn4 hnL HHK HKB
  go_upto_region 3 with (go_at_call 20; (with_reducible refine (HPQ.out _).mono ?_); rintro e w2 ⟨rfl, hb2⟩)
  have HX2 := Lib.hid (HX1.out.later hb2)
  clear hb2 hw1
  go_upto_region 5 with (fail)
  obtain ⟨V4, hV4⟩ : ∃ V4, V4 = (w2.alloc (.cells #[.string ⟨#[]⟩, .int .i64 0, .int .i64 0, .string ⟨#[67, 112, 117]⟩, .int .i64 0, .int .i64 0, .string ⟨#[97, 98, 99, 100, 101, 102, 103, 104, 105, 106, 107]⟩, .int .i64 0, .int .i64 0, .string ⟨#[97]⟩, .int .i64 (-k), .int .i64 0, .string ⟨#[97]⟩, .int .i64 (1048575 + k), .int .i64 0, .string ⟨#[97]⟩, .int .i64 0, .int .i64 (1000000 + k)] 30)).alloc (.cells #[.int .i64 4, .int .i64 4, .int .i64 4, .int .i64 2, .int .i64 2, .int .i64 2] 32) := ⟨_, rfl⟩
  have hb4 : Below w2.heap.size w2 V4 := by rw [hV4]; exact belowAuto
  have hz4 : V4.heap.size = w2.heap.size + 2 := by rw [hV4]; simp
  have ko : V4.heap[w2.heap.size]? = some (.cells #[.string ⟨#[]⟩, .int .i64 0, .int .i64 0, .string ⟨#[67, 112, 117]⟩, .int .i64 0, .int .i64 0, .string ⟨#[97, 98, 99, 100, 101, 102, 103, 104, 105, 106, 107]⟩, .int .i64 0, .int .i64 0, .string ⟨#[97]⟩, .int .i64 (-k), .int .i64 0, .string ⟨#[97]⟩, .int .i64 (1048575 + k), .int .i64 0, .string ⟨#[97]⟩, .int .i64 0, .int .i64 (1000000 + k)] 30) := by rw [hV4, Below.heap_alloc _ _ _ (by simp)]; exact heap_new _ _ rfl
  have ke : V4.heap[w2.heap.size + 1]? = some (.cells #[.int .i64 4, .int .i64 4, .int .i64 4, .int .i64 2, .int .i64 2, .int .i64 2] 32) := by rw [hV4]; exact heap_new _ _ (by simp)
  have HO := Lib.hid fun W (hb : Below V4.heap.size V4 W) => And.intro (odd_cells ((hb.block w2.heap.size (by omega)).trans ko) hi) (err_cell ((hb.block (w2.heap.size + 1) (by omega)).trans ke) hi)
  have HX4 := Lib.hid (HX2.out.later hb4)
  rw [← hV4]
  obtain ⟨ob, hob⟩ : ∃ ob, w2.heap.size = ob := ⟨_, rfl⟩
  rw [hob] at HO ⊢
  clear hV4 hb4 hz4 ko ke hob hw2 hw3 hw4
  have hix := fun w' => idx_pts (ab := ob) (aoff := 0) (n := 6) (cap := 6) (show (i : Int) = ((i : Nat) : Int) by rfl) hi w'
  have hiy := fun w' => idx_errs (ab := ob + 1) (aoff := 0) (n := 6) (cap := 6) (show (i : Int) = ((i : Nat) : Int) by rfl) hi w'
  go_upto_region 6 with (go_at_call 20; (with_reducible refine (HPI.out _).mono ?_); rintro e V5 ⟨rfl, hb5⟩)
  have HO5 := Lib.hid hb5
  have HX5 := Lib.hid (HX4.out.later hb5)
  clear hb5
  go_cut [13, 14] (fun p e wx => (∃ tb, p = .pointer (some ⟨tb, 0, none⟩)) ∧ e = .int .i64 (oddE i) ∧ Hid (Below V5.heap.size V5 wx))
  case first =>
    refine wp_region_fork (Sch.of [(0, 0), (1, 1), (2, 1), (3, 1), (4, 0)] (.fork 5 9 (Sch.of [(6, 1), (7, 1), (8, 1)] (Sch.of [(9, 2), (10, 3), (11, 1)] .nil)) (Sch.of [(5, 2), (6, 1), (7, 1), (8, 1), (10, 3), (11, 1)] .nil))) 10
      (fun W => (W.cell? ⟨tb, 0, none⟩ = some (.slice sa b.names.length sc) ∧ W.cell? ⟨tb, 1, none⟩ = some (.slice g0 l0 p0) ∧ W.cell? ⟨tb, 2, none⟩ = some (.int .i64 b.t0.root) ∧ W.cell? ⟨tb, 3, none⟩ = some (.slice g1 l1 p1) ∧ W.cell? ⟨tb, 4, none⟩ = some (.int .i64 b.t1.root) ∧ W.cell? ⟨tb, 5, none⟩ = some (.slice g2 l2 p2) ∧ W.cell? ⟨tb, 6, none⟩ = some (.int .i64 b.t2.root) ∧ W.cell? ⟨tb, 7, none⟩ = some (.int .i64 b.floor)) ∧ W.cell? ⟨ob, i * 3, none⟩ = some (.string (oddS i)) ∧ W.cell? ⟨ob, i * 3 + 1, none⟩ = some (.int .i64 (oddT k i)) ∧ W.cell? ⟨ob, i * 3 + 2, none⟩ = some (.int .i64 (oddV k i))) (by kernel_rfl) (by kernel_rfl) ⟨(HX5.out.later (Below.refl _ _).drew).bx.cells, (HO.out _ (Below.trans' HO5.out (Below.refl _ _).drew HO5.out.size)).1⟩ ?_
    simp only [Sch.of]
    have B_w0 : Below V5.heap.size V5 V5.drew := (Below.refl _ _).drew
    (repeat (first | ((refine fork_pure (v := ?_) rfl rfl (fun W => ?_) ?_); rotate_left; focus (go_simp; (try with_reducible rfl); done)) | ((refine fork_read (v := ?_) rfl rfl (fun W hW => ?_) ?_); rotate_left; focus ((try dsimp only at hW); go_simp; (try with_reducible rfl); done))))
    refine fork_both rfl rfl rfl rfl (fun K hK => ?_) (fun K hK => ?_)
    · skip
      go_simp
      (with_reducible refine (HAO.out _ (HX5.out.later B_w0)).mono ?_)
      rintro e w1 ⟨hb_w1, rfl⟩
      go_simp
      have B_w1 : Below V5.heap.size V5 w1 := Below.trans' B_w0 hb_w1 B_w0.size
      try (have KT := (hb_w1.block tb (by have := (Array.getElem?_eq_some_iff.1 KT).1; omega)).trans KT)
      refine hK _ _ (⟨(HX5.out.later B_w1).bx.cells, (HO.out _ (Below.trans' HO5.out B_w1 HO5.out.size)).1⟩) ?_
      clear hK K
      (repeat (first | ((refine fork_pure (v := ?_) rfl rfl (fun W => ?_) ?_); rotate_left; focus (go_simp; (try with_reducible rfl); done)) | ((refine fork_read (v := ?_) rfl rfl (fun W hW => ?_) ?_); rotate_left; focus ((try dsimp only at hW); go_simp; (try with_reducible rfl); done))))
      refine fork_does rfl rfl (fun K hK => ?_)
      go_simp
      obtain ⟨W2, hW⟩ : ∃ W', W' = w1.alloc (.cells #[.slice none 0 0, .slice none 0 0, .int .i64 0, .slice none 0 0, .int .i64 0, .slice none 0 0, .int .i64 0, .int .i64 0] 28) := ⟨_, rfl⟩
      have hba : Below w1.heap.size w1 W2 := by rw [hW]; exact belowAuto
      have B_W2 : Below V5.heap.size V5 W2 := Below.trans' B_w1 hba (B_w1.size)
      have KT : W2.heap[w1.heap.size]? = some (.cells #[.slice none 0 0, .slice none 0 0, .int .i64 0, .slice none 0 0, .int .i64 0, .slice none 0 0, .int .i64 0, .int .i64 0] 28) := by rw [hW]; exact heap_new _ _ rfl
      rw [← hW]
      obtain ⟨tb, htb⟩ : ∃ tb, w1.heap.size = tb := ⟨_, rfl⟩
      have hlo : V5.heap.size ≤ tb := by rw [← htb]; exact B_w1.size
      rw [htb] at KT ⊢
      refine hK _ _ (⟨(HX5.out.later B_W2).bx.cells, (HO.out _ (Below.trans' HO5.out B_W2 HO5.out.size)).1⟩) ?_
      clear hK K
      clear hW hba
      (repeat (first | ((refine fork_pure (v := ?_) rfl rfl (fun W => ?_) ?_); rotate_left; focus (go_simp; (try with_reducible rfl); done)) | ((refine fork_read (v := ?_) rfl rfl (fun W hW => ?_) ?_); rotate_left; focus ((try dsimp only at hW); go_simp; (try with_reducible rfl); done))))
      obtain ⟨z0, z1, z2, z3, z4, z5, z6, z7, zf⟩ : W2.cell? ⟨tb, 0, none⟩ = some (.slice none 0 0) ∧ W2.cell? ⟨tb, 1, none⟩ = some (.slice none 0 0) ∧ W2.cell? ⟨tb, 2, none⟩ = some (.int .i64 0) ∧ W2.cell? ⟨tb, 3, none⟩ = some (.slice none 0 0) ∧ W2.cell? ⟨tb, 4, none⟩ = some (.int .i64 0) ∧ W2.cell? ⟨tb, 5, none⟩ = some (.slice none 0 0) ∧ W2.cell? ⟨tb, 6, none⟩ = some (.int .i64 0) ∧ W2.cell? ⟨tb, 7, none⟩ = some (.int .i64 0) ∧ ∀ o, W2.frozen? ⟨tb, o, none⟩ = false := by simp [World.cell?, World.frozen?, KT]
      clear KT
      refine fork_last rfl rfl (fun K hK => ?_)
      go_simp
      refine hK _ _ ?_
      clear hK K
      (repeat (first | ((refine fork_pure (v := ?_) rfl rfl (fun W => ?_) ?_); rotate_left; focus (go_simp; (try with_reducible rfl); done)) | ((refine fork_read (v := ?_) rfl rfl (fun W hW => ?_) ?_); rotate_left; focus ((try dsimp only at hW); go_simp; (try with_reducible rfl); done))))
      refine fork_end ?_
      go_wp2_with fail
      go_meet
      exact ⟨⟨tb, rfl⟩, rfl, Lib.hid ((((((((B_W2.setCell (p := ⟨tb, 0, none⟩) hlo (.slice none 0 0)).setCell (p := ⟨tb, 1, none⟩) hlo (.slice none 0 0)).setCell (p := ⟨tb, 2, none⟩) hlo (.int .i64 0)).setCell (p := ⟨tb, 3, none⟩) hlo (.slice none 0 0)).setCell (p := ⟨tb, 4, none⟩) hlo (.int .i64 0)).setCell (p := ⟨tb, 5, none⟩) hlo (.slice none 0 0)).setCell (p := ⟨tb, 6, none⟩) hlo (.int .i64 0)).setCell (p := ⟨tb, 7, none⟩) hlo (.int .i64 0))⟩
    · skip
      go_simp
      obtain ⟨W1, hW⟩ : ∃ W', W' = (V5.alloc (.cells #[.slice none 0 0, .slice none 0 0, .int .i64 0, .slice none 0 0, .int .i64 0, .slice none 0 0, .int .i64 0, .int .i64 0] 28)).drew := ⟨_, rfl⟩
      have hba : Below V5.heap.size V5 W1 := by rw [hW]; exact belowAuto
      have B_W1 : Below V5.heap.size V5 W1 := Below.trans' (Below.refl _ _) hba (Nat.le_refl _)
      have KT : W1.heap[V5.heap.size]? = some (.cells #[.slice none 0 0, .slice none 0 0, .int .i64 0, .slice none 0 0, .int .i64 0, .slice none 0 0, .int .i64 0, .int .i64 0] 28) := by rw [hW]; exact heap_new _ _ rfl
      rw [← hW]
      obtain ⟨tb, htb⟩ : ∃ tb, V5.heap.size = tb := ⟨_, rfl⟩
      have hlo : V5.heap.size ≤ tb := by rw [← htb]; exact Nat.le_refl _
      rw [htb] at KT ⊢
      refine hK _ _ (⟨(HX5.out.later B_W1).bx.cells, (HO.out _ (Below.trans' HO5.out B_W1 HO5.out.size)).1⟩) ?_
      clear hK K
      clear hW hba
      (repeat (first | ((refine fork_pure (v := ?_) rfl rfl (fun W => ?_) ?_); rotate_left; focus (go_simp; (try with_reducible rfl); done)) | ((refine fork_read (v := ?_) rfl rfl (fun W hW => ?_) ?_); rotate_left; focus ((try dsimp only at hW); go_simp; (try with_reducible rfl); done))))
      refine fork_does rfl rfl (fun K hK => ?_)
      go_simp
      (with_reducible refine (HAO.out _ (HX5.out.later B_W1)).mono ?_)
      rintro e w2 ⟨hb_w2, rfl⟩
      go_simp
      have B_w2 : Below V5.heap.size V5 w2 := Below.trans' B_W1 hb_w2 B_W1.size
      try (have KT := (hb_w2.block tb (by have := (Array.getElem?_eq_some_iff.1 KT).1; omega)).trans KT)
      refine hK _ _ (⟨(HX5.out.later B_w2).bx.cells, (HO.out _ (Below.trans' HO5.out B_w2 HO5.out.size)).1⟩) ?_
      clear hK K
      (repeat (first | ((refine fork_pure (v := ?_) rfl rfl (fun W => ?_) ?_); rotate_left; focus (go_simp; (try with_reducible rfl); done)) | ((refine fork_read (v := ?_) rfl rfl (fun W hW => ?_) ?_); rotate_left; focus ((try dsimp only at hW); go_simp; (try with_reducible rfl); done))))
      obtain ⟨z0, z1, z2, z3, z4, z5, z6, z7, zf⟩ : w2.cell? ⟨tb, 0, none⟩ = some (.slice none 0 0) ∧ w2.cell? ⟨tb, 1, none⟩ = some (.slice none 0 0) ∧ w2.cell? ⟨tb, 2, none⟩ = some (.int .i64 0) ∧ w2.cell? ⟨tb, 3, none⟩ = some (.slice none 0 0) ∧ w2.cell? ⟨tb, 4, none⟩ = some (.int .i64 0) ∧ w2.cell? ⟨tb, 5, none⟩ = some (.slice none 0 0) ∧ w2.cell? ⟨tb, 6, none⟩ = some (.int .i64 0) ∧ w2.cell? ⟨tb, 7, none⟩ = some (.int .i64 0) ∧ ∀ o, w2.frozen? ⟨tb, o, none⟩ = false := by simp [World.cell?, World.frozen?, KT]
      clear KT
      refine fork_last rfl rfl (fun K hK => ?_)
      go_simp
      refine hK _ _ ?_
      clear hK K
      (repeat (first | ((refine fork_pure (v := ?_) rfl rfl (fun W => ?_) ?_); rotate_left; focus (go_simp; (try with_reducible rfl); done)) | ((refine fork_read (v := ?_) rfl rfl (fun W hW => ?_) ?_); rotate_left; focus ((try dsimp only at hW); go_simp; (try with_reducible rfl); done))))
      refine fork_end ?_
      go_wp2_with fail
      go_meet
      exact ⟨⟨tb, rfl⟩, rfl, Lib.hid ((((((((B_w2.setCell (p := ⟨tb, 0, none⟩) hlo (.slice none 0 0)).setCell (p := ⟨tb, 1, none⟩) hlo (.slice none 0 0)).setCell (p := ⟨tb, 2, none⟩) hlo (.int .i64 0)).setCell (p := ⟨tb, 3, none⟩) hlo (.slice none 0 0)).setCell (p := ⟨tb, 4, none⟩) hlo (.int .i64 0)).setCell (p := ⟨tb, 5, none⟩) hlo (.slice none 0 0)).setCell (p := ⟨tb, 6, none⟩) hlo (.int .i64 0)).setCell (p := ⟨tb, 7, none⟩) hlo (.int .i64 0))⟩
  case rest =>
    obtain ⟨⟨ob6, rfl⟩, rfl, HB6⟩ := hcut
    have HX6 := Lib.hid (HX5.out.later HB6.out)
    have HB6 := Lib.hid (Below.trans' HO5.out HB6.out HO5.out.size)
    clear hix
    go_upto_region 8 with (go_at_call 12; (with_reducible refine (HAZ.out _ HX6.out.below).mono ?_); rintro e w7 ⟨hb7, rfl⟩)
    obtain ⟨V7, hV7⟩ : ∃ V7, V7 = w7.alloc (.cells #[.slice none 0 0, .slice none 0 0, .int .i64 0, .slice none 0 0, .int .i64 0, .slice none 0 0, .int .i64 0, .int .i64 0] 28) := ⟨_, rfl⟩
    have hb_V7 : Below w7.heap.size w7 V7 := by rw [hV7]; exact belowAuto
    have HX7 := Lib.hid ((HX6.out.later hb7).later hb_V7)
    have HB7 := Lib.hid (Below.trans' HB6.out (Below.trans' hb7 hb_V7 hb7.size) HB6.out.size)
    rw [← hV7]
    clear hV7 hb7 hb_V7
    obtain ⟨d0, d1, d2, d3, d4, d5, d6, d7⟩ := HX7.out.bx.cells
    go_upto_region 9 with (go_at_call 24; (with_reducible refine (HTN.out _ HX7.out).mono ?_); rintro e w8 ⟨hb8, rfl⟩)
    obtain ⟨V8, hV8⟩ : ∃ V8, V8 = w8.alloc (.cells #[.int .i64 0, .int .i64 0, .int .i64 0, .int .i64 0, .int .i64 0, .int .i64 0] 55) := ⟨_, rfl⟩
    have hb_V8 : Below w8.heap.size w8 V8 := by rw [hV8]; exact belowAuto
    have HX8 := Lib.hid ((HX7.out.later hb8).later hb_V8)
    have HB8 := Lib.hid (Below.trans' HB7.out (Below.trans' hb8 hb_V8 hb8.size) HB7.out.size)
    rw [← hV8]
    clear hV8 hb8 hb_V8 d0 d1 d2 d3 d4 d5 d6 d7
    obtain ⟨d0, d1, d2, d3, d4, d5, d6, d7⟩ := HX8.out.bx.cells
    go_upto_region 10 with (go_at_call 12; (with_reducible refine (HAC.out _ HX8.out).mono ?_); rintro e w9 ⟨hb9, c, xa, xc, y0, m0, q0, y1, m1, q1, y2, m2, q2, rfl, hca, hcn, hcf, hcs⟩; have HC := Lib.hid (And.intro hca (And.intro hcn (And.intro hcf hcs))); clear hca hcn hcf hcs)
    obtain ⟨hca, hcn, hcf, hcs⟩ := HC.out
    obtain ⟨V9, hV9⟩ : ∃ V9, V9 = w9.alloc (.cells (baCells xa c.names.length xc y0 m0 q0 y1 m1 q1 y2 m2 q2 c) 28) := ⟨_, rfl⟩
    have hb_V9 : Below w9.heap.size w9 V9 := by rw [hV9]; exact belowAuto
    have HX9 := Lib.hid ((HX8.out.later hb9).later hb_V9)
    have HB9 := Lib.hid (Below.trans' HB8.out (Below.trans' hb9 hb_V9 hb9.size) HB8.out.size)
    have HC9 := Lib.hid (show BxAt V9 w9.heap.size xa xc y0 m0 q0 y1 m1 q1 y2 m2 q2 c by rw [hV9]; exact BxAt.new hca)
    have hsc : ∀ s ∈ c.names, s.size ≤ 140737488351232 := fun s hs => by
      rw [hcn, addNames_eq] at hs
      rcases withName_mem.1 hs with hs | rfl
      · exact HKX.out.2.1 s hs
      · exact Nat.le_trans cpuB_may.2 (by decide)
    have hse : seriesE c cpuB = 0 := by
      rcases hcs.kn.series cpuB with hh | hh
      · have : 0 ≤ placeI c.names cpuB := place_nonneg.2 (by rw [hcn, addNames_eq]; exact withName_mem.2 (.inr rfl))
        omega
      · exact hh.2
    have HRW := Lib.hid fun W (hb : Below w.heap.size w W) (hc : BxAt W w9.heap.size xa xc y0 m0 q0 y1 m1 q1 y2 m2 q2 c) => (by
      obtain ⟨e1, e2⟩ := rowsE_range (n := 60) (a := k) (z := k - 1) (k := 1) hse (by decide) rfl (by unfold rowsOk; omega)
      have := rows_any (s := cpuB) (n := 60) (a := k) (z := k - 1) hc.at' hsc (HSZ.out.below hb)
      rw [e1, e2] at this
      exact this : Calls Tryd.prog 21 #[.agg (baCells xa c.names.length xc y0 m0 q0 y1 m1 q1 y2 m2 q2 c), .string ⟨#[99, 112, 117]⟩, .int .i64 60, .int .i64 k, .int .i64 (k - 1)] W (RowsPost W.heap.size W [] 2))
    have hw6 : IntKind.i64.wrap (1048575 + k) = 1048575 + k := IntWalk.i64_in _ (by omega)
    have HTW := Lib.hid fun W (hb : Below w.heap.size w W) (hc : BxAt W w9.heap.size xa xc y0 m0 q0 y1 m1 q1 y2 m2 q2 c) => (by
      obtain ⟨e1, e2⟩ := total_range (a := 0) (z := 1048575 + k) hse (by unfold rowsOk; omega)
      have := total_any (s := cpuB) (a := 0) (z := 1048575 + k) hc.at' hsc (HSZ.out.below hb)
      rw [e1, e2] at this
      exact this : Calls Tryd.prog 24 #[.agg (baCells xa c.names.length xc y0 m0 q0 y1 m1 q1 y2 m2 q2 c), .string ⟨#[99, 112, 117]⟩, .int .i64 0, .int .i64 (1048575 + k)] W fun e w' => Below W.heap.size W w' ∧ e = .returned (.tuple #[.agg #[.int .i64 0, .int .i64 0, .int .i64 0, .int .i64 0, .int .i64 0, .int .i64 0], .int .i64 2]))
    rw [← hV9]
    obtain ⟨cb, hcb⟩ : ∃ cb, w9.heap.size = cb := ⟨_, rfl⟩
    rw [hcb] at HC9 HRW HTW ⊢
    clear hV9 hb9 hb_V9 d0 d1 d2 d3 d4 d5 d6 d7 hca hcn hcf hcs hsc hse hcb HC
    obtain ⟨d0, d1, d2, d3, d4, d5, d6, d7⟩ := HC9.out.cells
    go_upto_region 11 with (go_at_call 21; (with_reducible refine (HRW.out _ HX9.out.below HC9.out).mono ?_); rintro e w10 ⟨hb10, rv, rfl, hrow⟩; have HXA := Lib.hid (HX9.out.later hb10); have HCA := Lib.hid (HC9.out.later hb10); have HBA := Lib.hid (Below.trans' HB9.out hb10 HB9.out.size); obtain ⟨ra, rc, rfl⟩ := hrow.isSlice; clear hb10 hrow)
    clear d0 d1 d2 d3 d4 d5 d6 d7
    obtain ⟨d0, d1, d2, d3, d4, d5, d6, d7⟩ := HCA.out.cells
    go_upto_region 12 with (go_at_call 24; (with_reducible refine (HTW.out _ HXA.out.below HCA.out).mono ?_); rintro e w11 ⟨hb11, rfl⟩)
    obtain ⟨VB, hVB⟩ : ∃ VB, VB = w11.alloc (.cells #[.int .i64 0, .int .i64 0, .int .i64 0, .int .i64 0, .int .i64 0, .int .i64 0] 55) := ⟨_, rfl⟩
    have hb_VB : Below w11.heap.size w11 VB := by rw [hVB]; exact belowAuto
    have HXB := Lib.hid ((HXA.out.later hb11).later hb_VB)
    have HBB := Below.trans' HBA.out (Below.trans' hb11 hb_VB hb11.size) HBA.out.size
    have ec := (HO.out _ HBB).2
    rw [← hVB]
    clear hVB hb11 hb_VB d0 d1 d2 d3 d4 d5 d6 d7 HBB
    go_wp2_with fail
    go_ret
    exact ⟨ret_bool (by simp), HXB.out.below⟩
end Go.Proofs.YtalnnghnipoogaaDoor
