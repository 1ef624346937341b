/- The law BasesExpire: what is too old is gone, and comes no more; the rest stays. -/
import Derived.Test.YtalnnghnipoogaaDoorKD
import Derived.Test.YtalnnghnipoogaaDoorKExpP
import Derived.Test.YtalnnghnipoogaaDoorTG
import Derived.Test.YtalnnghnipoogaaDoorEX
import Derived.Test.YtalnnghnipoogaaDoorSO
namespace Go.Proofs.YtalnnghnipoogaaDoor
open Go.RowKit

theorem BxAt.new1 {w : World} {sa : Option Addr} {sc : Nat} {g0 : Option Addr} {l0 p0 : Nat} {g1 : Option Addr} {l1 p1 : Nat} {g2 : Option Addr} {l2 p2 : Nat} {b : Ba} (h : BaseAt w (.agg (baCells sa b.names.length sc g0 l0 p0 g1 l1 p1 g2 l2 p2 b)) b) : BxAt (w.alloc (.cells (baCells sa b.names.length sc g0 l0 p0 g1 l1 p1 g2 l2 p2 b) 28)) w.heap.size sa sc g0 l0 p0 g1 l1 p1 g2 l2 p2 b :=
  ⟨heap_new _ _ rfl, h.below (belowAuto)⟩
def ExpOk (b : Ba) (time : Int) (w : World) (x : Ending) (w' : World) : Prop := Below w.heap.size w w' ∧ ∃ c xa xc y0 m0 q0 y1 m1 q1 y2 m2 q2, x = .returned (.tuple #[.agg (baCells xa c.names.length xc y0 m0 q0 y1 m1 q1 y2 m2 q2 c), .int .i64 0]) ∧ BaseAt w' (.agg (baCells xa c.names.length xc y0 m0 q0 y1 m1 q1 y2 m2 q2 c)) c ∧ c.names = b.names ∧ c.floor = time ∧ baseMay c = true ∧ bookR c = some (expL b time)
theorem expire_ok {v : Value} {b : Ba} {L : List Ent} {N : Nat} {time : Int} {w : World} (h : BaseAt w v b) (hst : ∀ s ∈ b.names, s.size ≤ 140737488351232) (hsz : SizesAt w) (hk : Kn b L N) (hN : N ≤ 2900) (h0 : expF b time = 0) :
    Calls Tryd.prog 28 #[v, .int .i64 time] w (ExpOk b time w) := by
  refine (baseExpire_any h hst hsz).mono ?_
  rintro x w' ⟨hb, ⟨h1, -⟩ | ⟨-, ⟨-, h2⟩ | h2⟩⟩
  · exact absurd h0 h1
  · have h3 : (expL b time).length ≤ L.length := by unfold expL; rw [hk.book]; exact List.length_filter_le _ _
    have := hk.len
    omega
  · exact ⟨hb, h2⟩
theorem expire_no {v : Value} {b : Ba} {time E : Int} {w : World} (h : BaseAt w v b) (hst : ∀ s ∈ b.names, s.size ≤ 140737488351232) (hsz : SizesAt w) (hE : expF b time = E) (h0 : E ≠ 0) :
    Calls Tryd.prog 28 #[v, .int .i64 time] w fun x w' => Below w.heap.size w w' ∧ x = .returned (.tuple #[zeroB, .int .i64 E]) := by
  refine (baseExpire_any h hst hsz).mono ?_
  rintro x w' ⟨hb, ⟨-, h1⟩ | ⟨h1, -⟩⟩
  · rw [hE] at h1; exact ⟨hb, h1⟩
  · omega
set_option maxRecDepth 100000 in
set_option maxHeartbeats 8000000 in
theorem basesExpire_any {v : Value} {xs : List Rw} {n back : Int} {w : World} (h : RwsAt w v xs) (hx : ∀ a ∈ xs, a.ok) (hn : i64 n) (hbk : i64 back) (hsz : SizesAt w) :
    Calls Tryd.prog 8 #[v, .int .i64 n, .int .i64 back] w fun e w' => e = .returned (.bool true) ∧ Below w.heap.size w w' := by
  obtain ⟨ao, cap, rfl⟩ := h.isSlice
  have HKB := Lib.hid (show Calls Tryd.prog 18 #[.slice ao xs.length cap, .int .i64 40] w (KbPost xs 40 w) from kBase_any (most := 40) h hx (by decide) hsz)
  have HSZ := Lib.hid hsz
  have hrq := picked_in n 3 (by decide)
  obtain ⟨q, hq⟩ : ∃ q, picked n 3 = q := ⟨_, rfl⟩
  have HPQ := Lib.hid fun W => (by have := picked_any2 n 3 W hn.1 hn.2 (by decide) (by decide); rw [hq] at this; exact this : Calls Tryd.prog 20 #[.int .i64 n, .int .i64 3] W fun e w' => e = .returned (.int .i64 q) ∧ Below W.heap.size W w')
  rw [hq] at hrq
  obtain ⟨T, hT⟩ : ∃ T, 3600 * (1 + q) = T := ⟨_, rfl⟩
  have hT1 : 3600 ≤ T ∧ T ≤ 10800 ∧ T % 3600 = 0 := by omega
  have hw1 : IntKind.i64.wrap (1 + q) = 1 + q := IntWalk.i64_in _ (by omega)
  have hw2 : IntKind.i64.wrap (3600 * (1 + q)) = T := by rw [hT]; exact IntWalk.i64_in _ (by omega)
  have hrm := picked_in back 3598 (by decide)
  obtain ⟨m, hm⟩ : ∃ m, picked back 3598 = m := ⟨_, rfl⟩
  have HPM := Lib.hid fun W => (by have := picked_any2 back 3598 W hbk.1 hbk.2 (by decide) (by decide); rw [hm] at this; exact this : Calls Tryd.prog 20 #[.int .i64 back, .int .i64 3598] W fun e w' => e = .returned (.int .i64 m) ∧ Below W.heap.size W w')
  rw [hm] at hrm
  have hrp := picked_in back T (by omega)
  obtain ⟨p, hp⟩ : ∃ p, picked back T = p := ⟨_, rfl⟩
  have HPP := Lib.hid fun W => (by have := picked_any2 back T W hbk.1 hbk.2 (by omega) (by omega); rw [hp] at this; exact this : Calls Tryd.prog 20 #[.int .i64 back, .int .i64 T] W fun e w' => e = .returned (.int .i64 p) ∧ Below W.heap.size W w')
  rw [hp] at hrp
  have hw3 : IntKind.i64.wrap (T + 1) = T + 1 := IntWalk.i64_in _ (by omega)
  have hw4 : IntKind.i64.wrap (T + 1 + m) = T + 1 + m := IntWalk.i64_in _ (by omega)
  have hw5 : IntKind.i64.wrap (T - 3600) = T - 3600 := IntWalk.i64_in _ (by omega)
  have hw6 : IntKind.i64.wrap (T - 1) = T - 1 := IntWalk.i64_in _ (by omega)
  clear h hx hsz hn hbk hq hT hm hp
  go_enter Tryd.func8, Tryd.ntmps8
  go_upto_region 2 with (go_at_call 18; (with_reducible refine HKB.out.mono ?_); rintro e w1 ⟨hb1, sa, sc, g0, l0, p0, g1, l1, p1, g2, l2, p2, b, pa, pc, pts, rfl, hat, hown, hkb, heq⟩; have HHK := Lib.hid (And.intro hkb heq); clear hkb heq)
  obtain ⟨hkb, heq⟩ := HHK.out
  obtain ⟨W1, hW1⟩ : ∃ W1, W1 = w1.alloc (.cells (baCells sa b.names.length sc g0 l0 p0 g1 l1 p1 g2 l2 p2 b) 28) := ⟨_, rfl⟩
  have hb1' : Below w1.heap.size w1 W1 := by rw [hW1]; exact belowAuto
  have hbx : BxAt W1 w1.heap.size sa sc g0 l0 p0 g1 l1 p1 g2 l2 p2 b := by rw [hW1]; exact BxAt.new hat
  have HX1 := Lib.hid (show KxAt w w1.heap.size sa sc g0 l0 p0 g1 l1 p1 g2 l2 p2 b (.slice pa pts.length pc) pts W1 from ⟨Below.trans' hb1 hb1' hb1.size, hbx, hown.below hb1' (Nat.le_refl _)⟩)
  have hsm := base_names_small hkb heq
  have hl40 : pts.length ≤ 40 := by rw [heq, List.length_map, List.length_take]; omega
  have hpo : ∀ p ∈ pts, PtOk p := fun p hp => by
    rw [heq] at hp
    obtain ⟨r, -, rfl⟩ := List.mem_map.1 hp
    exact (pointF_early r).1
  rw [← hW1]
  obtain ⟨tb, htb⟩ : ∃ tb, w1.heap.size = tb := ⟨_, rfl⟩
  rw [htb] at HX1 ⊢
  have HK := Lib.hid fun (s : ByteArray) W (hx : KxAt w tb sa sc g0 l0 p0 g1 l1 p1 g2 l2 p2 b (.slice pa pts.length pc) pts W) => known_any (s := s) (a := T) (z := 1048575) (hx.own.at (by omega)) (by omega) hpo
  have hfl := hkb.floor
  have hmay := hkb.st.may
  have hE0 : expF b T = 0 := by unfold expF; rw [if_neg (by rw [hmay]; decide), if_neg (by omega), if_neg (by omega), if_neg (by omega)]
  have hE4 : expF b (T + 1 + m) = 4 := by unfold expF; rw [if_neg (by rw [hmay]; decide), if_neg (by omega), if_pos (by omega)]
  have HE0 := Lib.hid fun W (hx : KxAt w tb sa sc g0 l0 p0 g1 l1 p1 g2 l2 p2 b (.slice pa pts.length pc) pts W) => expire_ok hx.bx.at' hsm (HSZ.out.below hx.below) hkb.st.kn (by omega) hE0
  have HE4 := Lib.hid fun W (hx : KxAt w tb sa sc g0 l0 p0 g1 l1 p1 g2 l2 p2 b (.slice pa pts.length pc) pts W) => expire_no hx.bx.at' hsm (HSZ.out.below hx.below) hE4 (by decide)
  have HKX := Lib.hid (And.intro hkb (And.intro hsm (And.intro hpo hl40)))
  clear hW1 hb1 hb1' hbx hat hown hkb heq htb hsm hl40 hpo hfl hmay hE0 hE4 HHK HKB
  go_upto_region 3 with (go_at_call 20; (with_reducible refine (HPQ.out _).mono ?_); rintro e w2 ⟨rfl, hb2⟩)
  have HX2 := Lib.hid (HX1.out.later hb2)
  obtain ⟨c0, c1, c2, c3, c4, c5, c6, c7⟩ := HX2.out.bx.cells
  clear hb2 hw1 hw2
  go_upto_region 4 with (go_at_call 28; (with_reducible refine (HE0.out _ HX2.out).mono ?_); rintro e w3 ⟨hb3, c, xa, xc, y0, m0, q0, y1, m1, q1, y2, m2, q2, rfl, hca, hcn, hcf, hcm, hcb⟩; have HC := Lib.hid (And.intro hca (And.intro hcn (And.intro hcf (And.intro hcm hcb)))); clear hca hcn hcf hcm hcb)
  obtain ⟨hca, hcn, hcf, hcm, hcb⟩ := HC.out
  obtain ⟨V3, hV3⟩ : ∃ V3, V3 = w3.alloc (.cells (baCells xa c.names.length xc y0 m0 q0 y1 m1 q1 y2 m2 q2 c) 28) := ⟨_, rfl⟩
  have hb3' : Below w3.heap.size w3 V3 := by rw [hV3]; exact belowAuto
  have hcx : BxAt V3 w3.heap.size xa xc y0 m0 q0 y1 m1 q1 y2 m2 q2 c := by rw [hV3]; exact BxAt.new1 hca
  have HX3 := Lib.hid ((HX2.out.later hb3).later hb3')
  have HC3 := Lib.hid hcx
  obtain ⟨hkb, hsm, hpo, hl40⟩ := HKX.out
  have hsc : ∀ s ∈ c.names, s.size ≤ 140737488351232 := by rw [hcn]; exact hsm
  have hE8 : expF c (T - 3600) = 8 := by unfold expF; rw [if_neg (by rw [hcm]; decide), if_neg (by omega), if_neg (by omega), if_pos (by omega)]
  have hA8 : addF c cpuB p 0 = 8 := by
    have hr : rollOf p 0 = (⟨1, 0, 0, 0, p, 0⟩, 0) := if_pos ⟨by omega, by omega, by decide, by decide⟩
    unfold addF; rw [if_neg (by rw [hcm]; decide), if_neg (by rw [cpuB_may.1]; decide), if_neg (by simp [hr]), if_pos (by omega)]
  have HE8 := Lib.hid fun W (hb : Below w.heap.size w W) (hc : BxAt W w3.heap.size xa xc y0 m0 q0 y1 m1 q1 y2 m2 q2 c) => expire_no hc.at' hsc (HSZ.out.below hb) hE8 (by decide)
  have HA8 := Lib.hid fun W (hb : Below w.heap.size w W) (hc : BxAt W w3.heap.size xa xc y0 m0 q0 y1 m1 q1 y2 m2 q2 c) => (show Calls Tryd.prog 12 #[.agg (baCells xa c.names.length xc y0 m0 q0 y1 m1 q1 y2 m2 q2 c), .agg #[.string ⟨#[99, 112, 117]⟩, .int .i64 p, .int .i64 0]] W fun x w' => Below W.heap.size W w' ∧ x = .returned (.tuple #[zeroB, .int .i64 8]) from add_no (s := cpuB) hc.at' hsc (Nat.le_trans cpuB_may.2 (by decide)) (HSZ.out.below hb) hA8 (by decide))
  have HCK := Lib.hid fun W (hb : Below w.heap.size w W) (hc : BxAt W w3.heap.size xa xc y0 m0 q0 y1 m1 q1 y2 m2 q2 c) => (by
    have := baseCheck_any hc.at' hsc (HSZ.out.below hb)
    rw [show checkE c = 0 from by unfold checkE; rw [if_pos hcm]] at this
    exact this : Calls Tryd.prog 25 #[.agg (baCells xa c.names.length xc y0 m0 q0 y1 m1 q1 y2 m2 q2 c)] W fun e w' => e = .returned (.int .i64 0) ∧ Below W.heap.size W w')
  have HT := Lib.hid fun (z : Int) (s : ByteArray) W (hb : Below w.heap.size w W) (hc : BxAt W w3.heap.size xa xc y0 m0 q0 y1 m1 q1 y2 m2 q2 c) => total_any (s := s) (a := 0) (z := z) hc.at' hsc (HSZ.out.below hb)
  have HTV := Lib.hid fun (s : ByteArray) (hs : s ∈ b.names) => exp_total hkb (by omega) hs hpo (by omega) (by omega) hcn hcm hcb
  rw [← hV3]
  obtain ⟨cb, hcb'⟩ : ∃ cb, w3.heap.size = cb := ⟨_, rfl⟩
  rw [hcb'] at HC3 HE8 HA8 HCK HT ⊢
  clear hV3 hb3 hb3' hcx hkb hsm hpo hl40 hsc hE8 hA8 hcb' hca hcn hcf hcm hcb HC HKX HE0 c0 c1 c2 c3 c4 c5 c6 c7 hT1
  go_cut [12, 13] (fun p e wx => (∃ tb, p = .pointer (some ⟨tb, 0, none⟩)) ∧ e = .int .i64 4 ∧ Hid (Below V3.heap.size V3 wx))
  case first =>
    refine wp_region_fork (Sch.of [(0, 0), (1, 1), (2, 1), (3, 1)] (.fork 4 10 (Sch.of [(5, 1)] (.fork 6 10 (Sch.of [(7, 1), (8, 1), (9, 1)] (Sch.of [(10, 2), (11, 3), (12, 1)] .nil)) (Sch.of [(6, 2), (7, 1), (8, 1), (9, 1), (11, 3), (12, 1)] .nil))) (Sch.of [(4, 2), (5, 1), (6, 2), (7, 1), (8, 1), (9, 1), (11, 3), (12, 1)] .nil))) 11
      (fun W => W.cell? ⟨tb, 0, none⟩ = some (.slice sa b.names.length sc) ∧ W.cell? ⟨tb, 1, none⟩ = some (.slice g0 l0 p0) ∧ W.cell? ⟨tb, 2, none⟩ = some (.int .i64 b.t0.root) ∧ W.cell? ⟨tb, 3, none⟩ = some (.slice g1 l1 p1) ∧ W.cell? ⟨tb, 4, none⟩ = some (.int .i64 b.t1.root) ∧ W.cell? ⟨tb, 5, none⟩ = some (.slice g2 l2 p2) ∧ W.cell? ⟨tb, 6, none⟩ = some (.int .i64 b.t2.root) ∧ W.cell? ⟨tb, 7, none⟩ = some (.int .i64 b.floor)) (by kernel_rfl) (by kernel_rfl) (HX3.out.later (Below.refl _ _).drew).bx.cells ?_
    simp only [Sch.of]
    have B_w0 : Below V3.heap.size V3 V3.drew := (Below.refl _ _).drew
    (repeat (first | ((refine fork_pure (v := ?_) rfl rfl (fun W => ?_) ?_); rotate_left; focus (go_simp; (try with_reducible rfl); done)) | ((refine fork_read (v := ?_) rfl rfl (fun W hW => ?_) ?_); rotate_left; focus ((try dsimp only at hW); go_simp; (try with_reducible rfl); done))))
    refine fork_both rfl rfl rfl rfl (fun K hK => ?_) (fun K hK => ?_)
    · skip
      go_simp
      (with_reducible refine (HPM.out _).mono ?_)
      rintro e w1 ⟨rfl, hb_w1⟩
      go_simp
      have B_w1 : Below V3.heap.size V3 w1 := Below.trans' B_w0 hb_w1 B_w0.size
      try (have KT := (hb_w1.block tb (by have := (Array.getElem?_eq_some_iff.1 KT).1; omega)).trans KT)
      refine hK _ _ ((HX3.out.later B_w1).bx.cells) ?_
      clear hK K
      (repeat (first | ((refine fork_pure (v := ?_) rfl rfl (fun W => ?_) ?_); rotate_left; focus (go_simp; (try with_reducible rfl); done)) | ((refine fork_read (v := ?_) rfl rfl (fun W hW => ?_) ?_); rotate_left; focus ((try dsimp only at hW); go_simp; (try with_reducible rfl); done))))
      refine fork_both rfl rfl rfl rfl (fun K hK => ?_) (fun K hK => ?_)
      · skip
        go_simp
        (with_reducible refine (HE4.out _ (HX3.out.later B_w1)).mono ?_)
        rintro e w2 ⟨hb_w2, rfl⟩
        go_simp
        have B_w2 : Below V3.heap.size V3 w2 := Below.trans' B_w1 hb_w2 B_w1.size
        try (have KT := (hb_w2.block tb (by have := (Array.getElem?_eq_some_iff.1 KT).1; omega)).trans KT)
        refine hK _ _ ((HX3.out.later B_w2).bx.cells) ?_
        clear hK K
        (repeat (first | ((refine fork_pure (v := ?_) rfl rfl (fun W => ?_) ?_); rotate_left; focus (go_simp; (try with_reducible rfl); done)) | ((refine fork_read (v := ?_) rfl rfl (fun W hW => ?_) ?_); rotate_left; focus ((try dsimp only at hW); go_simp; (try with_reducible rfl); done))))
        refine fork_does rfl rfl (fun K hK => ?_)
        go_simp
        obtain ⟨W3, hW⟩ : ∃ W', W' = w2.alloc (.cells #[.slice none 0 0, .slice none 0 0, .int .i64 0, .slice none 0 0, .int .i64 0, .slice none 0 0, .int .i64 0, .int .i64 0] 28) := ⟨_, rfl⟩
        have hba : Below w2.heap.size w2 W3 := by rw [hW]; exact belowAuto
        have B_W3 : Below V3.heap.size V3 W3 := Below.trans' B_w2 hba (B_w2.size)
        have KT : W3.heap[w2.heap.size]? = some (.cells #[.slice none 0 0, .slice none 0 0, .int .i64 0, .slice none 0 0, .int .i64 0, .slice none 0 0, .int .i64 0, .int .i64 0] 28) := by rw [hW]; exact heap_new _ _ rfl
        rw [← hW]
        obtain ⟨tb, htb⟩ : ∃ tb, w2.heap.size = tb := ⟨_, rfl⟩
        have hlo : V3.heap.size ≤ tb := by rw [← htb]; exact B_w2.size
        rw [htb] at KT ⊢
        refine hK _ _ ((HX3.out.later B_W3).bx.cells) ?_
        clear hK K
        clear hW hba
        (repeat (first | ((refine fork_pure (v := ?_) rfl rfl (fun W => ?_) ?_); rotate_left; focus (go_simp; (try with_reducible rfl); done)) | ((refine fork_read (v := ?_) rfl rfl (fun W hW => ?_) ?_); rotate_left; focus ((try dsimp only at hW); go_simp; (try with_reducible rfl); done))))
        obtain ⟨z0, z1, z2, z3, z4, z5, z6, z7, zf⟩ : W3.cell? ⟨tb, 0, none⟩ = some (.slice none 0 0) ∧ W3.cell? ⟨tb, 1, none⟩ = some (.slice none 0 0) ∧ W3.cell? ⟨tb, 2, none⟩ = some (.int .i64 0) ∧ W3.cell? ⟨tb, 3, none⟩ = some (.slice none 0 0) ∧ W3.cell? ⟨tb, 4, none⟩ = some (.int .i64 0) ∧ W3.cell? ⟨tb, 5, none⟩ = some (.slice none 0 0) ∧ W3.cell? ⟨tb, 6, none⟩ = some (.int .i64 0) ∧ W3.cell? ⟨tb, 7, none⟩ = some (.int .i64 0) ∧ ∀ o, W3.frozen? ⟨tb, o, none⟩ = false := by simp [World.cell?, World.frozen?, KT]
        clear KT
        refine fork_last rfl rfl (fun K hK => ?_)
        go_simp
        refine hK _ _ ?_
        clear hK K
        (repeat (first | ((refine fork_pure (v := ?_) rfl rfl (fun W => ?_) ?_); rotate_left; focus (go_simp; (try with_reducible rfl); done)) | ((refine fork_read (v := ?_) rfl rfl (fun W hW => ?_) ?_); rotate_left; focus ((try dsimp only at hW); go_simp; (try with_reducible rfl); done))))
        refine fork_end ?_
        go_wp2_with fail
        go_meet
        exact ⟨⟨tb, rfl⟩, rfl, Lib.hid ((((((((B_W3.setCell (p := ⟨tb, 0, none⟩) hlo (.slice none 0 0)).setCell (p := ⟨tb, 1, none⟩) hlo (.slice none 0 0)).setCell (p := ⟨tb, 2, none⟩) hlo (.int .i64 0)).setCell (p := ⟨tb, 3, none⟩) hlo (.slice none 0 0)).setCell (p := ⟨tb, 4, none⟩) hlo (.int .i64 0)).setCell (p := ⟨tb, 5, none⟩) hlo (.slice none 0 0)).setCell (p := ⟨tb, 6, none⟩) hlo (.int .i64 0)).setCell (p := ⟨tb, 7, none⟩) hlo (.int .i64 0))⟩
      · skip
        go_simp
        obtain ⟨W2, hW⟩ : ∃ W', W' = w1.alloc (.cells #[.slice none 0 0, .slice none 0 0, .int .i64 0, .slice none 0 0, .int .i64 0, .slice none 0 0, .int .i64 0, .int .i64 0] 28) := ⟨_, rfl⟩
        have hba : Below w1.heap.size w1 W2 := by rw [hW]; exact belowAuto
        have B_W2 : Below V3.heap.size V3 W2 := Below.trans' B_w1 hba (B_w1.size)
        have KT : W2.heap[w1.heap.size]? = some (.cells #[.slice none 0 0, .slice none 0 0, .int .i64 0, .slice none 0 0, .int .i64 0, .slice none 0 0, .int .i64 0, .int .i64 0] 28) := by rw [hW]; exact heap_new _ _ rfl
        rw [← hW]
        obtain ⟨tb, htb⟩ : ∃ tb, w1.heap.size = tb := ⟨_, rfl⟩
        have hlo : V3.heap.size ≤ tb := by rw [← htb]; exact B_w1.size
        rw [htb] at KT ⊢
        refine hK _ _ ((HX3.out.later B_W2).bx.cells) ?_
        clear hK K
        clear hW hba
        (repeat (first | ((refine fork_pure (v := ?_) rfl rfl (fun W => ?_) ?_); rotate_left; focus (go_simp; (try with_reducible rfl); done)) | ((refine fork_read (v := ?_) rfl rfl (fun W hW => ?_) ?_); rotate_left; focus ((try dsimp only at hW); go_simp; (try with_reducible rfl); done))))
        refine fork_does rfl rfl (fun K hK => ?_)
        go_simp
        (with_reducible refine (HE4.out _ (HX3.out.later B_W2)).mono ?_)
        rintro e w3 ⟨hb_w3, rfl⟩
        go_simp
        have B_w3 : Below V3.heap.size V3 w3 := Below.trans' B_W2 hb_w3 B_W2.size
        try (have KT := (hb_w3.block tb (by have := (Array.getElem?_eq_some_iff.1 KT).1; omega)).trans KT)
        refine hK _ _ ((HX3.out.later B_w3).bx.cells) ?_
        clear hK K
        (repeat (first | ((refine fork_pure (v := ?_) rfl rfl (fun W => ?_) ?_); rotate_left; focus (go_simp; (try with_reducible rfl); done)) | ((refine fork_read (v := ?_) rfl rfl (fun W hW => ?_) ?_); rotate_left; focus ((try dsimp only at hW); go_simp; (try with_reducible rfl); done))))
        obtain ⟨z0, z1, z2, z3, z4, z5, z6, z7, zf⟩ : w3.cell? ⟨tb, 0, none⟩ = some (.slice none 0 0) ∧ w3.cell? ⟨tb, 1, none⟩ = some (.slice none 0 0) ∧ w3.cell? ⟨tb, 2, none⟩ = some (.int .i64 0) ∧ w3.cell? ⟨tb, 3, none⟩ = some (.slice none 0 0) ∧ w3.cell? ⟨tb, 4, none⟩ = some (.int .i64 0) ∧ w3.cell? ⟨tb, 5, none⟩ = some (.slice none 0 0) ∧ w3.cell? ⟨tb, 6, none⟩ = some (.int .i64 0) ∧ w3.cell? ⟨tb, 7, none⟩ = some (.int .i64 0) ∧ ∀ o, w3.frozen? ⟨tb, o, none⟩ = false := by simp [World.cell?, World.frozen?, KT]
        clear KT
        refine fork_last rfl rfl (fun K hK => ?_)
        go_simp
        refine hK _ _ ?_
        clear hK K
        (repeat (first | ((refine fork_pure (v := ?_) rfl rfl (fun W => ?_) ?_); rotate_left; focus (go_simp; (try with_reducible rfl); done)) | ((refine fork_read (v := ?_) rfl rfl (fun W hW => ?_) ?_); rotate_left; focus ((try dsimp only at hW); go_simp; (try with_reducible rfl); done))))
        refine fork_end ?_
        go_wp2_with fail
        go_meet
        exact ⟨⟨tb, rfl⟩, rfl, Lib.hid ((((((((B_w3.setCell (p := ⟨tb, 0, none⟩) hlo (.slice none 0 0)).setCell (p := ⟨tb, 1, none⟩) hlo (.slice none 0 0)).setCell (p := ⟨tb, 2, none⟩) hlo (.int .i64 0)).setCell (p := ⟨tb, 3, none⟩) hlo (.slice none 0 0)).setCell (p := ⟨tb, 4, none⟩) hlo (.int .i64 0)).setCell (p := ⟨tb, 5, none⟩) hlo (.slice none 0 0)).setCell (p := ⟨tb, 6, none⟩) hlo (.int .i64 0)).setCell (p := ⟨tb, 7, none⟩) hlo (.int .i64 0))⟩
    · skip
      go_simp
      obtain ⟨W1, hW⟩ : ∃ W', W' = (V3.alloc (.cells #[.slice none 0 0, .slice none 0 0, .int .i64 0, .slice none 0 0, .int .i64 0, .slice none 0 0, .int .i64 0, .int .i64 0] 28)).drew := ⟨_, rfl⟩
      have hba : Below V3.heap.size V3 W1 := by rw [hW]; exact belowAuto
      have B_W1 : Below V3.heap.size V3 W1 := Below.trans' (Below.refl _ _) hba (Nat.le_refl _)
      have KT : W1.heap[V3.heap.size]? = some (.cells #[.slice none 0 0, .slice none 0 0, .int .i64 0, .slice none 0 0, .int .i64 0, .slice none 0 0, .int .i64 0, .int .i64 0] 28) := by rw [hW]; exact heap_new _ _ rfl
      rw [← hW]
      obtain ⟨tb, htb⟩ : ∃ tb, V3.heap.size = tb := ⟨_, rfl⟩
      have hlo : V3.heap.size ≤ tb := by rw [← htb]; exact Nat.le_refl _
      rw [htb] at KT ⊢
      refine hK _ _ ((HX3.out.later B_W1).bx.cells) ?_
      clear hK K
      clear hW hba
      (repeat (first | ((refine fork_pure (v := ?_) rfl rfl (fun W => ?_) ?_); rotate_left; focus (go_simp; (try with_reducible rfl); done)) | ((refine fork_read (v := ?_) rfl rfl (fun W hW => ?_) ?_); rotate_left; focus ((try dsimp only at hW); go_simp; (try with_reducible rfl); done))))
      refine fork_does rfl rfl (fun K hK => ?_)
      go_simp
      (with_reducible refine (HPM.out _).mono ?_)
      rintro e w2 ⟨rfl, hb_w2⟩
      go_simp
      have B_w2 : Below V3.heap.size V3 w2 := Below.trans' B_W1 hb_w2 B_W1.size
      try (have KT := (hb_w2.block tb (by have := (Array.getElem?_eq_some_iff.1 KT).1; omega)).trans KT)
      refine hK _ _ ((HX3.out.later B_w2).bx.cells) ?_
      clear hK K
      (repeat (first | ((refine fork_pure (v := ?_) rfl rfl (fun W => ?_) ?_); rotate_left; focus (go_simp; (try with_reducible rfl); done)) | ((refine fork_read (v := ?_) rfl rfl (fun W hW => ?_) ?_); rotate_left; focus ((try dsimp only at hW); go_simp; (try with_reducible rfl); done))))
      refine fork_does rfl rfl (fun K hK => ?_)
      go_simp
      (with_reducible refine (HE4.out _ (HX3.out.later B_w2)).mono ?_)
      rintro e w3 ⟨hb_w3, rfl⟩
      go_simp
      have B_w3 : Below V3.heap.size V3 w3 := Below.trans' B_w2 hb_w3 B_w2.size
      try (have KT := (hb_w3.block tb (by have := (Array.getElem?_eq_some_iff.1 KT).1; omega)).trans KT)
      refine hK _ _ ((HX3.out.later B_w3).bx.cells) ?_
      clear hK K
      (repeat (first | ((refine fork_pure (v := ?_) rfl rfl (fun W => ?_) ?_); rotate_left; focus (go_simp; (try with_reducible rfl); done)) | ((refine fork_read (v := ?_) rfl rfl (fun W hW => ?_) ?_); rotate_left; focus ((try dsimp only at hW); go_simp; (try with_reducible rfl); done))))
      obtain ⟨z0, z1, z2, z3, z4, z5, z6, z7, zf⟩ : w3.cell? ⟨tb, 0, none⟩ = some (.slice none 0 0) ∧ w3.cell? ⟨tb, 1, none⟩ = some (.slice none 0 0) ∧ w3.cell? ⟨tb, 2, none⟩ = some (.int .i64 0) ∧ w3.cell? ⟨tb, 3, none⟩ = some (.slice none 0 0) ∧ w3.cell? ⟨tb, 4, none⟩ = some (.int .i64 0) ∧ w3.cell? ⟨tb, 5, none⟩ = some (.slice none 0 0) ∧ w3.cell? ⟨tb, 6, none⟩ = some (.int .i64 0) ∧ w3.cell? ⟨tb, 7, none⟩ = some (.int .i64 0) ∧ ∀ o, w3.frozen? ⟨tb, o, none⟩ = false := by simp [World.cell?, World.frozen?, KT]
      clear KT
      refine fork_last rfl rfl (fun K hK => ?_)
      go_simp
      refine hK _ _ ?_
      clear hK K
      (repeat (first | ((refine fork_pure (v := ?_) rfl rfl (fun W => ?_) ?_); rotate_left; focus (go_simp; (try with_reducible rfl); done)) | ((refine fork_read (v := ?_) rfl rfl (fun W hW => ?_) ?_); rotate_left; focus ((try dsimp only at hW); go_simp; (try with_reducible rfl); done))))
      refine fork_end ?_
      go_wp2_with fail
      go_meet
      exact ⟨⟨tb, rfl⟩, rfl, Lib.hid ((((((((B_w3.setCell (p := ⟨tb, 0, none⟩) hlo (.slice none 0 0)).setCell (p := ⟨tb, 1, none⟩) hlo (.slice none 0 0)).setCell (p := ⟨tb, 2, none⟩) hlo (.int .i64 0)).setCell (p := ⟨tb, 3, none⟩) hlo (.slice none 0 0)).setCell (p := ⟨tb, 4, none⟩) hlo (.int .i64 0)).setCell (p := ⟨tb, 5, none⟩) hlo (.slice none 0 0)).setCell (p := ⟨tb, 6, none⟩) hlo (.int .i64 0)).setCell (p := ⟨tb, 7, none⟩) hlo (.int .i64 0))⟩
  case rest =>
    obtain ⟨⟨ob4, rfl⟩, rfl, HB4⟩ := hcut
    have HX4 := Lib.hid (HX3.out.later HB4.out)
    have HC4 := Lib.hid (HC3.out.later HB4.out)
    obtain ⟨d0, d1, d2, d3, d4, d5, d6, d7⟩ := HC4.out.cells
    clear HB4
    go_upto_region 6 with (go_at_call 28; (with_reducible refine (HE8.out _ HX4.out.below HC4.out).mono ?_); rintro e w5 ⟨hb5, rfl⟩)
    obtain ⟨V5, hV5⟩ : ∃ V5, V5 = w5.alloc (.cells #[.slice none 0 0, .slice none 0 0, .int .i64 0, .slice none 0 0, .int .i64 0, .slice none 0 0, .int .i64 0, .int .i64 0] 28) := ⟨_, rfl⟩
    have hb5' : Below w5.heap.size w5 V5 := by rw [hV5]; exact belowAuto
    have HX5 := Lib.hid ((HX4.out.later hb5).later hb5')
    have HC5 := Lib.hid ((HC4.out.later hb5).later hb5')
    rw [← hV5]
    clear hV5 hb5 hb5' d0 d1 d2 d3 d4 d5 d6 d7 HE8 HE4 hw3 hw4
    go_cut [16, 17] (fun p e wx => (∃ tb, p = .pointer (some ⟨tb, 0, none⟩)) ∧ e = .int .i64 8 ∧ Hid (Below V5.heap.size V5 wx))
    case first =>
      refine wp_region_fork (Sch.of [(0, 0), (1, 1), (2, 1)] (.fork 3 9 (Sch.of [(4, 1)] (.fork 5 9 (Sch.of [(6, 1), (7, 1), (8, 1)] (Sch.of [(9, 2), (10, 3), (11, 1)] .nil)) (Sch.of [(5, 2), (6, 1), (7, 1), (8, 1), (10, 3), (11, 1)] .nil))) (Sch.of [(3, 2), (4, 1), (5, 2), (6, 1), (7, 1), (8, 1), (10, 3), (11, 1)] .nil))) 10
        (fun W => W.cell? ⟨cb, 0, none⟩ = some (.slice xa c.names.length xc) ∧ W.cell? ⟨cb, 1, none⟩ = some (.slice y0 m0 q0) ∧ W.cell? ⟨cb, 2, none⟩ = some (.int .i64 c.t0.root) ∧ W.cell? ⟨cb, 3, none⟩ = some (.slice y1 m1 q1) ∧ W.cell? ⟨cb, 4, none⟩ = some (.int .i64 c.t1.root) ∧ W.cell? ⟨cb, 5, none⟩ = some (.slice y2 m2 q2) ∧ W.cell? ⟨cb, 6, none⟩ = some (.int .i64 c.t2.root) ∧ W.cell? ⟨cb, 7, none⟩ = some (.int .i64 c.floor)) (by kernel_rfl) (by kernel_rfl) (HC5.out.later (Below.refl _ _).drew).cells ?_
      simp only [Sch.of]
      have B_w0 : Below V5.heap.size V5 V5.drew := (Below.refl _ _).drew
      (repeat (first | ((refine fork_pure (v := ?_) rfl rfl (fun W => ?_) ?_); rotate_left; focus (go_simp; (try with_reducible rfl); done)) | ((refine fork_read (v := ?_) rfl rfl (fun W hW => ?_) ?_); rotate_left; focus ((try dsimp only at hW); go_simp; (try with_reducible rfl); done))))
      refine fork_both rfl rfl rfl rfl (fun K hK => ?_) (fun K hK => ?_)
      · skip
        go_simp
        (with_reducible refine (HPP.out _).mono ?_)
        rintro e w1 ⟨rfl, hb_w1⟩
        go_simp
        have B_w1 : Below V5.heap.size V5 w1 := Below.trans' B_w0 hb_w1 B_w0.size
        try (have KT := (hb_w1.block tb (by have := (Array.getElem?_eq_some_iff.1 KT).1; omega)).trans KT)
        refine hK _ _ ((HC5.out.later B_w1).cells) ?_
        clear hK K
        (repeat (first | ((refine fork_pure (v := ?_) rfl rfl (fun W => ?_) ?_); rotate_left; focus (go_simp; (try with_reducible rfl); done)) | ((refine fork_read (v := ?_) rfl rfl (fun W hW => ?_) ?_); rotate_left; focus ((try dsimp only at hW); go_simp; (try with_reducible rfl); done))))
        refine fork_both rfl rfl rfl rfl (fun K hK => ?_) (fun K hK => ?_)
        · skip
          go_simp
          (with_reducible refine (HA8.out _ (HX5.out.later B_w1).below (HC5.out.later B_w1)).mono ?_)
          rintro e w2 ⟨hb_w2, rfl⟩
          go_simp
          have B_w2 : Below V5.heap.size V5 w2 := Below.trans' B_w1 hb_w2 B_w1.size
          try (have KT := (hb_w2.block tb (by have := (Array.getElem?_eq_some_iff.1 KT).1; omega)).trans KT)
          refine hK _ _ ((HC5.out.later B_w2).cells) ?_
          clear hK K
          (repeat (first | ((refine fork_pure (v := ?_) rfl rfl (fun W => ?_) ?_); rotate_left; focus (go_simp; (try with_reducible rfl); done)) | ((refine fork_read (v := ?_) rfl rfl (fun W hW => ?_) ?_); rotate_left; focus ((try dsimp only at hW); go_simp; (try with_reducible rfl); done))))
          refine fork_does rfl rfl (fun K hK => ?_)
          go_simp
          obtain ⟨W3, hW⟩ : ∃ W', W' = w2.alloc (.cells #[.slice none 0 0, .slice none 0 0, .int .i64 0, .slice none 0 0, .int .i64 0, .slice none 0 0, .int .i64 0, .int .i64 0] 28) := ⟨_, rfl⟩
          have hba : Below w2.heap.size w2 W3 := by rw [hW]; exact belowAuto
          have B_W3 : Below V5.heap.size V5 W3 := Below.trans' B_w2 hba (B_w2.size)
          have KT : W3.heap[w2.heap.size]? = some (.cells #[.slice none 0 0, .slice none 0 0, .int .i64 0, .slice none 0 0, .int .i64 0, .slice none 0 0, .int .i64 0, .int .i64 0] 28) := by rw [hW]; exact heap_new _ _ rfl
          rw [← hW]
          obtain ⟨tb, htb⟩ : ∃ tb, w2.heap.size = tb := ⟨_, rfl⟩
          have hlo : V5.heap.size ≤ tb := by rw [← htb]; exact B_w2.size
          rw [htb] at KT ⊢
          refine hK _ _ ((HC5.out.later B_W3).cells) ?_
          clear hK K
          clear hW hba
          (repeat (first | ((refine fork_pure (v := ?_) rfl rfl (fun W => ?_) ?_); rotate_left; focus (go_simp; (try with_reducible rfl); done)) | ((refine fork_read (v := ?_) rfl rfl (fun W hW => ?_) ?_); rotate_left; focus ((try dsimp only at hW); go_simp; (try with_reducible rfl); done))))
          obtain ⟨z0, z1, z2, z3, z4, z5, z6, z7, zf⟩ : W3.cell? ⟨tb, 0, none⟩ = some (.slice none 0 0) ∧ W3.cell? ⟨tb, 1, none⟩ = some (.slice none 0 0) ∧ W3.cell? ⟨tb, 2, none⟩ = some (.int .i64 0) ∧ W3.cell? ⟨tb, 3, none⟩ = some (.slice none 0 0) ∧ W3.cell? ⟨tb, 4, none⟩ = some (.int .i64 0) ∧ W3.cell? ⟨tb, 5, none⟩ = some (.slice none 0 0) ∧ W3.cell? ⟨tb, 6, none⟩ = some (.int .i64 0) ∧ W3.cell? ⟨tb, 7, none⟩ = some (.int .i64 0) ∧ ∀ o, W3.frozen? ⟨tb, o, none⟩ = false := by simp [World.cell?, World.frozen?, KT]
          clear KT
          refine fork_last rfl rfl (fun K hK => ?_)
          go_simp
          refine hK _ _ ?_
          clear hK K
          (repeat (first | ((refine fork_pure (v := ?_) rfl rfl (fun W => ?_) ?_); rotate_left; focus (go_simp; (try with_reducible rfl); done)) | ((refine fork_read (v := ?_) rfl rfl (fun W hW => ?_) ?_); rotate_left; focus ((try dsimp only at hW); go_simp; (try with_reducible rfl); done))))
          refine fork_end ?_
          go_wp2_with fail
          go_meet
          exact ⟨⟨tb, rfl⟩, rfl, Lib.hid ((((((((B_W3.setCell (p := ⟨tb, 0, none⟩) hlo (.slice none 0 0)).setCell (p := ⟨tb, 1, none⟩) hlo (.slice none 0 0)).setCell (p := ⟨tb, 2, none⟩) hlo (.int .i64 0)).setCell (p := ⟨tb, 3, none⟩) hlo (.slice none 0 0)).setCell (p := ⟨tb, 4, none⟩) hlo (.int .i64 0)).setCell (p := ⟨tb, 5, none⟩) hlo (.slice none 0 0)).setCell (p := ⟨tb, 6, none⟩) hlo (.int .i64 0)).setCell (p := ⟨tb, 7, none⟩) hlo (.int .i64 0))⟩
        · skip
          go_simp
          obtain ⟨W2, hW⟩ : ∃ W', W' = w1.alloc (.cells #[.slice none 0 0, .slice none 0 0, .int .i64 0, .slice none 0 0, .int .i64 0, .slice none 0 0, .int .i64 0, .int .i64 0] 28) := ⟨_, rfl⟩
          have hba : Below w1.heap.size w1 W2 := by rw [hW]; exact belowAuto
          have B_W2 : Below V5.heap.size V5 W2 := Below.trans' B_w1 hba (B_w1.size)
          have KT : W2.heap[w1.heap.size]? = some (.cells #[.slice none 0 0, .slice none 0 0, .int .i64 0, .slice none 0 0, .int .i64 0, .slice none 0 0, .int .i64 0, .int .i64 0] 28) := by rw [hW]; exact heap_new _ _ rfl
          rw [← hW]
          obtain ⟨tb, htb⟩ : ∃ tb, w1.heap.size = tb := ⟨_, rfl⟩
          have hlo : V5.heap.size ≤ tb := by rw [← htb]; exact B_w1.size
          rw [htb] at KT ⊢
          refine hK _ _ ((HC5.out.later B_W2).cells) ?_
          clear hK K
          clear hW hba
          (repeat (first | ((refine fork_pure (v := ?_) rfl rfl (fun W => ?_) ?_); rotate_left; focus (go_simp; (try with_reducible rfl); done)) | ((refine fork_read (v := ?_) rfl rfl (fun W hW => ?_) ?_); rotate_left; focus ((try dsimp only at hW); go_simp; (try with_reducible rfl); done))))
          refine fork_does rfl rfl (fun K hK => ?_)
          go_simp
          (with_reducible refine (HA8.out _ (HX5.out.later B_W2).below (HC5.out.later B_W2)).mono ?_)
          rintro e w3 ⟨hb_w3, rfl⟩
          go_simp
          have B_w3 : Below V5.heap.size V5 w3 := Below.trans' B_W2 hb_w3 B_W2.size
          try (have KT := (hb_w3.block tb (by have := (Array.getElem?_eq_some_iff.1 KT).1; omega)).trans KT)
          refine hK _ _ ((HC5.out.later B_w3).cells) ?_
          clear hK K
          (repeat (first | ((refine fork_pure (v := ?_) rfl rfl (fun W => ?_) ?_); rotate_left; focus (go_simp; (try with_reducible rfl); done)) | ((refine fork_read (v := ?_) rfl rfl (fun W hW => ?_) ?_); rotate_left; focus ((try dsimp only at hW); go_simp; (try with_reducible rfl); done))))
          obtain ⟨z0, z1, z2, z3, z4, z5, z6, z7, zf⟩ : w3.cell? ⟨tb, 0, none⟩ = some (.slice none 0 0) ∧ w3.cell? ⟨tb, 1, none⟩ = some (.slice none 0 0) ∧ w3.cell? ⟨tb, 2, none⟩ = some (.int .i64 0) ∧ w3.cell? ⟨tb, 3, none⟩ = some (.slice none 0 0) ∧ w3.cell? ⟨tb, 4, none⟩ = some (.int .i64 0) ∧ w3.cell? ⟨tb, 5, none⟩ = some (.slice none 0 0) ∧ w3.cell? ⟨tb, 6, none⟩ = some (.int .i64 0) ∧ w3.cell? ⟨tb, 7, none⟩ = some (.int .i64 0) ∧ ∀ o, w3.frozen? ⟨tb, o, none⟩ = false := by simp [World.cell?, World.frozen?, KT]
          clear KT
          refine fork_last rfl rfl (fun K hK => ?_)
          go_simp
          refine hK _ _ ?_
          clear hK K
          (repeat (first | ((refine fork_pure (v := ?_) rfl rfl (fun W => ?_) ?_); rotate_left; focus (go_simp; (try with_reducible rfl); done)) | ((refine fork_read (v := ?_) rfl rfl (fun W hW => ?_) ?_); rotate_left; focus ((try dsimp only at hW); go_simp; (try with_reducible rfl); done))))
          refine fork_end ?_
          go_wp2_with fail
          go_meet
          exact ⟨⟨tb, rfl⟩, rfl, Lib.hid ((((((((B_w3.setCell (p := ⟨tb, 0, none⟩) hlo (.slice none 0 0)).setCell (p := ⟨tb, 1, none⟩) hlo (.slice none 0 0)).setCell (p := ⟨tb, 2, none⟩) hlo (.int .i64 0)).setCell (p := ⟨tb, 3, none⟩) hlo (.slice none 0 0)).setCell (p := ⟨tb, 4, none⟩) hlo (.int .i64 0)).setCell (p := ⟨tb, 5, none⟩) hlo (.slice none 0 0)).setCell (p := ⟨tb, 6, none⟩) hlo (.int .i64 0)).setCell (p := ⟨tb, 7, none⟩) hlo (.int .i64 0))⟩
      · skip
        go_simp
        obtain ⟨W1, hW⟩ : ∃ W', W' = (V5.alloc (.cells #[.slice none 0 0, .slice none 0 0, .int .i64 0, .slice none 0 0, .int .i64 0, .slice none 0 0, .int .i64 0, .int .i64 0] 28)).drew := ⟨_, rfl⟩
        have hba : Below V5.heap.size V5 W1 := by rw [hW]; exact belowAuto
        have B_W1 : Below V5.heap.size V5 W1 := Below.trans' (Below.refl _ _) hba (Nat.le_refl _)
        have KT : W1.heap[V5.heap.size]? = some (.cells #[.slice none 0 0, .slice none 0 0, .int .i64 0, .slice none 0 0, .int .i64 0, .slice none 0 0, .int .i64 0, .int .i64 0] 28) := by rw [hW]; exact heap_new _ _ rfl
        rw [← hW]
        obtain ⟨tb, htb⟩ : ∃ tb, V5.heap.size = tb := ⟨_, rfl⟩
        have hlo : V5.heap.size ≤ tb := by rw [← htb]; exact Nat.le_refl _
        rw [htb] at KT ⊢
        refine hK _ _ ((HC5.out.later B_W1).cells) ?_
        clear hK K
        clear hW hba
        (repeat (first | ((refine fork_pure (v := ?_) rfl rfl (fun W => ?_) ?_); rotate_left; focus (go_simp; (try with_reducible rfl); done)) | ((refine fork_read (v := ?_) rfl rfl (fun W hW => ?_) ?_); rotate_left; focus ((try dsimp only at hW); go_simp; (try with_reducible rfl); done))))
        refine fork_does rfl rfl (fun K hK => ?_)
        go_simp
        (with_reducible refine (HPP.out _).mono ?_)
        rintro e w2 ⟨rfl, hb_w2⟩
        go_simp
        have B_w2 : Below V5.heap.size V5 w2 := Below.trans' B_W1 hb_w2 B_W1.size
        try (have KT := (hb_w2.block tb (by have := (Array.getElem?_eq_some_iff.1 KT).1; omega)).trans KT)
        refine hK _ _ ((HC5.out.later B_w2).cells) ?_
        clear hK K
        (repeat (first | ((refine fork_pure (v := ?_) rfl rfl (fun W => ?_) ?_); rotate_left; focus (go_simp; (try with_reducible rfl); done)) | ((refine fork_read (v := ?_) rfl rfl (fun W hW => ?_) ?_); rotate_left; focus ((try dsimp only at hW); go_simp; (try with_reducible rfl); done))))
        refine fork_does rfl rfl (fun K hK => ?_)
        go_simp
        (with_reducible refine (HA8.out _ (HX5.out.later B_w2).below (HC5.out.later B_w2)).mono ?_)
        rintro e w3 ⟨hb_w3, rfl⟩
        go_simp
        have B_w3 : Below V5.heap.size V5 w3 := Below.trans' B_w2 hb_w3 B_w2.size
        try (have KT := (hb_w3.block tb (by have := (Array.getElem?_eq_some_iff.1 KT).1; omega)).trans KT)
        refine hK _ _ ((HC5.out.later B_w3).cells) ?_
        clear hK K
        (repeat (first | ((refine fork_pure (v := ?_) rfl rfl (fun W => ?_) ?_); rotate_left; focus (go_simp; (try with_reducible rfl); done)) | ((refine fork_read (v := ?_) rfl rfl (fun W hW => ?_) ?_); rotate_left; focus ((try dsimp only at hW); go_simp; (try with_reducible rfl); done))))
        obtain ⟨z0, z1, z2, z3, z4, z5, z6, z7, zf⟩ : w3.cell? ⟨tb, 0, none⟩ = some (.slice none 0 0) ∧ w3.cell? ⟨tb, 1, none⟩ = some (.slice none 0 0) ∧ w3.cell? ⟨tb, 2, none⟩ = some (.int .i64 0) ∧ w3.cell? ⟨tb, 3, none⟩ = some (.slice none 0 0) ∧ w3.cell? ⟨tb, 4, none⟩ = some (.int .i64 0) ∧ w3.cell? ⟨tb, 5, none⟩ = some (.slice none 0 0) ∧ w3.cell? ⟨tb, 6, none⟩ = some (.int .i64 0) ∧ w3.cell? ⟨tb, 7, none⟩ = some (.int .i64 0) ∧ ∀ o, w3.frozen? ⟨tb, o, none⟩ = false := by simp [World.cell?, World.frozen?, KT]
        clear KT
        refine fork_last rfl rfl (fun K hK => ?_)
        go_simp
        refine hK _ _ ?_
        clear hK K
        (repeat (first | ((refine fork_pure (v := ?_) rfl rfl (fun W => ?_) ?_); rotate_left; focus (go_simp; (try with_reducible rfl); done)) | ((refine fork_read (v := ?_) rfl rfl (fun W hW => ?_) ?_); rotate_left; focus ((try dsimp only at hW); go_simp; (try with_reducible rfl); done))))
        refine fork_end ?_
        go_wp2_with fail
        go_meet
        exact ⟨⟨tb, rfl⟩, rfl, Lib.hid ((((((((B_w3.setCell (p := ⟨tb, 0, none⟩) hlo (.slice none 0 0)).setCell (p := ⟨tb, 1, none⟩) hlo (.slice none 0 0)).setCell (p := ⟨tb, 2, none⟩) hlo (.int .i64 0)).setCell (p := ⟨tb, 3, none⟩) hlo (.slice none 0 0)).setCell (p := ⟨tb, 4, none⟩) hlo (.int .i64 0)).setCell (p := ⟨tb, 5, none⟩) hlo (.slice none 0 0)).setCell (p := ⟨tb, 6, none⟩) hlo (.int .i64 0)).setCell (p := ⟨tb, 7, none⟩) hlo (.int .i64 0))⟩
    case rest =>
      obtain ⟨⟨ob6, rfl⟩, rfl, HB6⟩ := hcut
      have HX6 := Lib.hid (HX5.out.later HB6.out)
      have HC6 := Lib.hid (HC5.out.later HB6.out)
      obtain ⟨d0, d1, d2, d3, d4, d5, d6, d7⟩ := HC6.out.cells
      have n0 := HX6.out.bx.cells.1
      have HN := Lib.hid HX6.out.bx.names
      clear HB6
      go_upto_region 9 with (go_at_call 25; (with_reducible refine (HCK.out _ HX6.out.below HC6.out).mono ?_); rintro e w7 ⟨rfl, hb7⟩; have HX7 := Lib.hid (HX6.out.later hb7); have HC7 := Lib.hid (HC6.out.later hb7); have n7 := HX7.out.bx.cells.1; obtain ⟨ns, nc, hnv, s1, s2, s3, s4, s5⟩ := HX7.out.bx.names; injection hnv with hn1 _ hn3; subst hn1 hn3; clear hb7)
      clear d0 d1 d2 d3 d4 d5 d6 d7 n0 HA8 HCK HN
      go_wp2_with fail
      go_loopg [87] b.names.length (fun g i wr => ∃ k : Nat, k ≤ b.names.length ∧ g = b.names.length - k ∧ i = .int .i64 k ∧ Hid (Below w7.heap.size w7 wr))
      case atStart => exact ⟨0, Nat.zero_le _, rfl, rfl, Lib.hid (Below.refl _ _)⟩
      case round =>
        obtain ⟨k, hk, rfl, rfl, HR⟩ := hrel
        by_cases hlt : k < b.names.length
        · obtain ⟨ab, aoff, rfl, abb, ac⟩ := s5 (by omega)
          have e0 := strs_cell HR.out abb ac hlt
          obtain ⟨s, hs⟩ : ∃ s, b.names[k] = s := ⟨_, rfl⟩
          rw [hs] at e0
          have hsm : s ∈ b.names := hs ▸ List.getElem_mem hlt
          obtain ⟨⟨v1, v2⟩, v3, v4⟩ := HTV.out s hsm
          obtain ⟨R, hRv⟩ : ∃ R, knownF pts s T 1048575 = R := ⟨_, rfl⟩
          rw [hRv] at v2
          have HB7W := Lib.hid HR.out
          have HX8 := Lib.hid (HX7.out.later HR.out)
          have HC8 := Lib.hid (HC7.out.later HR.out)
          have HT1 := Lib.hid fun W hb hc => (by have := HT.out 1048575 s W hb hc; rw [v1, v2] at this; exact this : Calls Tryd.prog 24 #[.agg (baCells xa c.names.length xc y0 m0 q0 y1 m1 q1 y2 m2 q2 c), .string s, .int .i64 0, .int .i64 1048575] W fun e w' => Below W.heap.size W w' ∧ e = .returned (.tuple #[.agg #[.int .i64 R.c, .int .i64 R.s, .int .i64 R.mi, .int .i64 R.ma, .int .i64 R.t, .int .i64 R.l], .int .i64 0]))
          have HT2 := Lib.hid fun W hb hc => (by have := HT.out (T - 1) s W hb hc; rw [v3, v4] at this; exact this : Calls Tryd.prog 24 #[.agg (baCells xa c.names.length xc y0 m0 q0 y1 m1 q1 y2 m2 q2 c), .string s, .int .i64 0, .int .i64 (T - 1)] W fun e w' => Below W.heap.size W w' ∧ e = .returned (.tuple #[.agg #[.int .i64 0, .int .i64 0, .int .i64 0, .int .i64 0, .int .i64 0, .int .i64 0], .int .i64 0]))
          have HKN := Lib.hid fun W hx => (by have := HK.out s W hx; rw [hRv] at this; exact this : Calls Tryd.prog 23 #[.slice pa pts.length pc, .string s, .int .i64 T, .int .i64 1048575] W fun e w' => e = .returned (.agg #[.int .i64 R.c, .int .i64 R.s, .int .i64 R.mi, .int .i64 R.ma, .int .i64 R.t, .int .i64 R.l]) ∧ Below W.heap.size W w')
          have hix := fun w' => idx_str (ab := ab) (aoff := aoff) (n := b.names.length) (cap := sc) (show (k : Int) = ((k : Nat) : Int) by rfl) hlt w'
          obtain ⟨d0, d1, d2, d3, d4, d5, d6, d7⟩ := HC8.out.cells
          clear hs hsm v1 v2 v3 v4 hRv ac s5 HR
          go_upto_region 13 with (go_at_call 24; (with_reducible refine (HT1.out _ HX8.out.below HC8.out).mono ?_); rintro e w8 ⟨hb8, rfl⟩)
          obtain ⟨V8, hV8⟩ : ∃ V8, V8 = w8.alloc (.cells #[.int .i64 R.c, .int .i64 R.s, .int .i64 R.mi, .int .i64 R.ma, .int .i64 R.t, .int .i64 R.l] 55) := ⟨_, rfl⟩
          have hb8' : Below w8.heap.size w8 V8 := by rw [hV8]; exact belowAuto
          have k8 : V8.heap[w8.heap.size]? = some (.cells #[.int .i64 R.c, .int .i64 R.s, .int .i64 R.mi, .int .i64 R.ma, .int .i64 R.t, .int .i64 R.l] 55) := by rw [hV8]; exact heap_new _ _ rfl
          have HX9 := Lib.hid ((HX8.out.later hb8).later hb8')
          have HC9 := Lib.hid ((HC8.out.later hb8).later hb8')
          have HBR := Lib.hid (Below.trans' hb8 hb8' hb8.size)
          have hz8 : V8.heap.size = w8.heap.size + 1 := by rw [hV8]; simp
          rw [← hV8]
          clear d0 d1 d2 d3 d4 d5 d6 d7 hV8 hb8 hb8' hix e0
          obtain ⟨d0, d1, d2, d3, d4, d5, d6, d7⟩ := HC9.out.cells
          go_upto_region 14 with (go_at_call 24; (with_reducible refine (HT2.out _ HX9.out.below HC9.out).mono ?_); rintro e w9 ⟨hb9, rfl⟩)
          obtain ⟨V9, hV9⟩ : ∃ V9, V9 = w9.alloc (.cells #[.int .i64 0, .int .i64 0, .int .i64 0, .int .i64 0, .int .i64 0, .int .i64 0] 55) := ⟨_, rfl⟩
          have hb9' : Below w9.heap.size w9 V9 := by rw [hV9]; exact belowAuto
          have k9 : V9.heap[w9.heap.size]? = some (.cells #[.int .i64 0, .int .i64 0, .int .i64 0, .int .i64 0, .int .i64 0, .int .i64 0] 55) := by rw [hV9]; exact heap_new _ _ rfl
          have HXA := Lib.hid (((HX9.out.later hb9).later hb9').later (Below.refl _ _).drew)
          have HBA := Lib.hid ((Below.trans' HBR.out (Below.trans' hb9 hb9' hb9.size) HBR.out.size).drew)
          have HF := Lib.hid fun W (hb : Below V9.drew.heap.size V9.drew W) => (by
            have q8 := (hb.block w8.heap.size (by show _ < V9.heap.size; rw [hV9]; simp; have := hb9.size; omega)).trans ((hb9'.block w8.heap.size (by have := hb9.size; omega)).trans ((hb9.block w8.heap.size (by omega)).trans k8))
            have q9 := (hb.block w9.heap.size (by show _ < V9.heap.size; rw [hV9]; simp)).trans k9
            simp [World.cell?, q8, q9] : (W.cell? ⟨w8.heap.size, 0, none⟩ = some (.int .i64 R.c) ∧ W.cell? ⟨w8.heap.size, 1, none⟩ = some (.int .i64 R.s) ∧ W.cell? ⟨w8.heap.size, 2, none⟩ = some (.int .i64 R.mi) ∧ W.cell? ⟨w8.heap.size, 3, none⟩ = some (.int .i64 R.ma) ∧ W.cell? ⟨w8.heap.size, 4, none⟩ = some (.int .i64 R.t) ∧ W.cell? ⟨w8.heap.size, 5, none⟩ = some (.int .i64 R.l)) ∧ W.cell? ⟨w9.heap.size, 0, none⟩ = some (.int .i64 0))
          rw [← hV9]
          clear d0 d1 d2 d3 d4 d5 d6 d7 hV9 hb9 hb9' k8 k9 hz8
          refine wp_region_schedG [(0, 1), (1, 1), (2, 1), (3, 1), (4, 1), (5, 1), (6, 1), (7, 0), (8, 1), (9, 1), (10, 1), (11, 2), (12, 1), (13, 1), (14, 1), (15, 1), (16, 0), (17, 1), (18, 3)] 18
            (fun W => (W.cell? ⟨w8.heap.size, 0, none⟩ = some (.int .i64 R.c) ∧ W.cell? ⟨w8.heap.size, 1, none⟩ = some (.int .i64 R.s) ∧ W.cell? ⟨w8.heap.size, 2, none⟩ = some (.int .i64 R.mi) ∧ W.cell? ⟨w8.heap.size, 3, none⟩ = some (.int .i64 R.ma) ∧ W.cell? ⟨w8.heap.size, 4, none⟩ = some (.int .i64 R.t) ∧ W.cell? ⟨w8.heap.size, 5, none⟩ = some (.int .i64 R.l)) ∧ W.cell? ⟨w9.heap.size, 0, none⟩ = some (.int .i64 0)) (by kernel_rfl) (by kernel_rfl) (HF.out _ (Below.refl _ _)) ?_
          (simp only [pickS, List.filterMap_cons, List.filterMap_nil, List.getElem?_cons_zero, List.getElem?_cons_succ, Option.map_some])
          (repeat (first | ((refine schedG_pure (v := ?_) ?_ (fun W => ?_) ?_); rotate_left; (focus (first | exact wanted_bare rfl _ | exact wanted_yes rfl rfl rfl rfl)); (focus (go_simp; (try with_reducible rfl); done)); (try simp only [Act.put, List.setIfInBounds_toArray, List.set_cons_zero, List.set_cons_succ])) | ((refine schedG_read (v := ?_) ?_ (fun W hW => ?_) ?_); rotate_left; (focus (first | exact wanted_bare rfl _ | exact wanted_yes rfl rfl rfl rfl)); (focus ((try dsimp only at hW); go_simp; (try with_reducible rfl); done)); (try simp only [Act.put, List.setIfInBounds_toArray, List.set_cons_zero, List.set_cons_succ])) | ((refine schedG_skip ?_ ?_); (focus exact wanted_no rfl rfl rfl rfl); (try simp only [Act.put, List.setIfInBounds_toArray, List.set_cons_zero, List.set_cons_succ]))))
          refine schedG_does ?_ (fun K hK => ?_)
          (focus (first | exact wanted_bare rfl _ | exact wanted_yes rfl rfl rfl rfl))
          go_simp
          (with_reducible refine (HKN.out _ HXA.out).mono ?_); rintro x wB ⟨rfl, hbB⟩
          go_simp
          refine hK _ _ (HF.out _ hbB) ?_
          clear hK K
          (repeat (first | ((refine schedG_pure (v := ?_) ?_ (fun W => ?_) ?_); rotate_left; (focus (first | exact wanted_bare rfl _ | exact wanted_yes rfl rfl rfl rfl)); (focus (go_simp; (try with_reducible rfl); done)); (try simp only [Act.put, List.setIfInBounds_toArray, List.set_cons_zero, List.set_cons_succ])) | ((refine schedG_read (v := ?_) ?_ (fun W hW => ?_) ?_); rotate_left; (focus (first | exact wanted_bare rfl _ | exact wanted_yes rfl rfl rfl rfl)); (focus ((try dsimp only at hW); go_simp; (try with_reducible rfl); done)); (try simp only [Act.put, List.setIfInBounds_toArray, List.set_cons_zero, List.set_cons_succ])) | ((refine schedG_skip ?_ ?_); (focus exact wanted_no rfl rfl rfl rfl); (try simp only [Act.put, List.setIfInBounds_toArray, List.set_cons_zero, List.set_cons_succ]))))
          refine schedG_last ?_ (fun K hK => ?_)
          (focus (first | exact wanted_bare rfl _ | exact wanted_yes rfl rfl rfl rfl))
          go_simp
          refine hK _ _ ?_
          clear hK K
          refine schedG_end ?_
          have HBB := Lib.hid (Below.trans' HBA.out hbB HBA.out.size)
          clear hbB
          go_wp2_with fail
          go_roundg (b.names.length - (k + 1))
          case measure => omega
          case rel => exact ⟨k + 1, by omega, rfl, by go_num, Lib.hid (Below.trans' HB7W.out HBB.out HB7W.out.size)⟩
        · have HW := Lib.hid (HX7.out.later HR.out).below
          clear HR
          go_wp2_with fail
          go_ret
          exact ⟨ret_bool (by simp), HW.out⟩
end Go.Proofs.YtalnnghnipoogaaDoor
