/- The law BasesAny: in whatever order points of one series come, as much is known. -/
import Derived.Test.YtalnnghnipoogaaDoorKD
import Derived.Test.YtalnnghnipoogaaDoorKR
import Derived.Test.YtalnnghnipoogaaDoorTG
import Derived.Test.YtalnnghnipoogaaDoorRW
import Derived.Test.YtalnnghnipoogaaDoorPS
import Derived.Test.YtalnnghnipoogaaDoorAK
namespace Go.Proofs.YtalnnghnipoogaaDoor
open Go.RowKit

set_option maxHeartbeats 1000000 in
theorem equalRows_any {va vb : Value} {xs ys : List Ent} {w : World} (ha : EntsAt w va xs) (hb : EntsAt w vb ys) :
    Calls Tryd.prog 27 #[va, vb] w fun e w' => e = .returned (.bool (decide (xs = ys))) ∧ Below w.heap.size w w' := by
  obtain ⟨ao, ca, rfl, a1, a2, a3, a4, a5⟩ := ha
  obtain ⟨bo, cb, rfl, b1, b2, b3, b4, b5⟩ := hb
  by_cases hl : xs.length = ys.length
  · have hl' : ((xs.length : Int) != (ys.length : Int)) = false := by simp [hl]
    have HL := Lib.hid hl
    clear hl
    go_enter Tryd.func27, Tryd.ntmps27
    go_wp2_with fail
    go_loopg [13] xs.length (fun g i wr => ∃ k : Nat, k ≤ xs.length ∧ g = xs.length - k ∧ i = .int .i64 k ∧ Hid (xs.take k = ys.take k) ∧ Below w.heap.size w wr)
    case atStart => exact ⟨0, Nat.zero_le _, rfl, rfl, Lib.hid (by simp), Below.refl _ _⟩
    case round =>
      obtain ⟨k, hk, rfl, rfl, HE, hbw⟩ := hrel
      by_cases hlt : k < xs.length
      · obtain ⟨ab, aoff, rfl, abb, ac⟩ := a5 (by omega)
        obtain ⟨bb, boff, rfl, bbb, bc⟩ := b5 (by have := HL.out; omega)
        have hlt2 : k < ys.length := by have := HL.out; omega
        obtain ⟨c0, c1, c2, c3, c4, c5, c6⟩ := ent_cells hbw abb ac hlt
        obtain ⟨d0, d1, d2, d3, d4, d5, d6⟩ := ent_cells hbw bbb bc hlt2
        clear ac bc a5 b5
        obtain ⟨e, he⟩ : ∃ e, xs[k] = e := ⟨_, rfl⟩
        obtain ⟨f, hf⟩ : ∃ f, ys[k] = f := ⟨_, rfl⟩
        rw [he] at c0 c1 c2 c3 c4 c5 c6
        rw [hf] at d0 d1 d2 d3 d4 d5 d6
        have EE := Lib.hid he
        have FF := Lib.hid hf
        clear he hf
        have hne := run_neq_row e f
        by_cases hef : e = f
        · have hef' : (decide (e = f)) = true := by simp [hef]
          have HEF := Lib.hid hef
          clear hef
          go_wp2
          go_quiet (fail)
          go_wp2
          go_roundg (xs.length - (k + 1))
          case measure => omega
          case rel => exact ⟨k + 1, by omega, rfl, by go_num, Lib.hid (take_eq_step HE.out hlt hlt2 (by rw [EE.out, FF.out, HEF.out])), (by repeat (first | exact Below.refl _ _ | assumption | refine below_dn ?_ _ | refine Below.drew ?_ | refine Below.alloc ?_ (by simp <;> omega) _ | refine Below.setCell ?_ (by simp <;> omega) _))⟩
        · have hef' : (decide (e = f)) = false := by simp [hef]
          have hxy : decide (xs = ys) = false := by simpa using ne_of_get hlt hlt2 (by rw [EE.out, FF.out]; exact hef)
          clear hef
          go_wp2
          go_quiet (fail)
          go_wp2
          go_ret
          exact ⟨ret_bool hxy.symm, (by repeat (first | exact Below.refl _ _ | assumption | refine below_dn ?_ _ | refine Below.drew ?_ | refine Below.alloc ?_ (by simp <;> omega) _ | refine Below.setCell ?_ (by simp <;> omega) _))⟩
      · have hxy : decide (xs = ys) = true := by
          have h1 := HE.out
          have h2 := HL.out
          rw [List.take_of_length_le (by omega), List.take_of_length_le (by omega)] at h1
          simpa using h1
        go_wp2
        go_ret
        exact ⟨ret_bool hxy.symm, (by repeat (first | exact Below.refl _ _ | assumption | refine below_dn ?_ _ | refine Below.drew ?_ | refine Below.alloc ?_ (by simp <;> omega) _ | refine Below.setCell ?_ (by simp <;> omega) _))⟩
  · have hl' : ((xs.length : Int) != (ys.length : Int)) = true := by simp; omega
    have hxy : decide (xs = ys) = false := by simp; intro h; subst h; exact hl rfl
    clear hl
    go_enter Tryd.func27, Tryd.ntmps27
    go_wp2_with fail
    go_ret
    exact ⟨ret_bool hxy.symm, (by repeat (first | exact Below.refl _ _ | assumption | refine below_dn ?_ _ | refine Below.drew ?_ | refine Below.alloc ?_ (by simp <;> omega) _ | refine Below.setCell ?_ (by simp <;> omega) _))⟩

theorem Keep.set' {M : Nat} {w w' : World} (h : Keep M w w') {p : Addr} (hb : p.block < M ∨ w.heap.size ≤ p.block) (u : Value) : Keep M w (w'.setCell p u) := by
  refine ⟨by rw [heap_setCell_size]; exact h.size, fun j hm hj => ?_⟩
  exact (heap_setCell_other _ p j _ (by omega)).trans (h.block j hm hj)
structure MbAt (xb yb : Nat) (sa : Option Addr) (sc : Nat) (g0 : Option Addr) (l0 p0 : Nat) (g1 : Option Addr) (l1 p1 : Nat) (g2 : Option Addr) (l2 p2 : Nat) (b : Ba) (wr : World) : Prop where
  box : wr.heap[xb]? = some (.cells (baCells sa b.names.length sc g0 l0 p0 g1 l1 p1 g2 l2 p2 b) 28)
  base : ∃ M wA, (xb < M ∨ wA.heap.size ≤ xb) ∧ (yb < M ∨ wA.heap.size ≤ yb) ∧ Keep M wA wr ∧ ∀ w'', Keep M wA w'' → BaseAt w'' (.agg (baCells sa b.names.length sc g0 l0 p0 g1 l1 p1 g2 l2 p2 b)) b
section
variable {xb yb : Nat} {sa : Option Addr} {sc : Nat} {g0 : Option Addr} {l0 p0 : Nat} {g1 : Option Addr} {l1 p1 : Nat} {g2 : Option Addr} {l2 p2 : Nat} {b : Ba} {wr wx : World}
theorem MbAt.lt (h : MbAt xb yb sa sc g0 l0 p0 g1 l1 p1 g2 l2 p2 b wr) : xb < wr.heap.size := (Array.getElem?_eq_some_iff.1 h.box).1
theorem MbAt.later (h : MbAt xb yb sa sc g0 l0 p0 g1 l1 p1 g2 l2 p2 b wr) (hb : Below wr.heap.size wr wx) : MbAt xb yb sa sc g0 l0 p0 g1 l1 p1 g2 l2 p2 b wx := by
  obtain ⟨M, wA, h1, h2, h3, h4⟩ := h.base
  exact ⟨(hb.block _ h.lt).trans h.box, M, wA, h1, h2, h3.trans (Keep.of hb (Nat.le_refl _)), h4⟩
theorem MbAt.at (h : MbAt xb yb sa sc g0 l0 p0 g1 l1 p1 g2 l2 p2 b wr) : BaseAt wr (.agg (baCells sa b.names.length sc g0 l0 p0 g1 l1 p1 g2 l2 p2 b)) b := by
  obtain ⟨M, wA, -, -, h3, h4⟩ := h.base
  exact h4 _ h3
theorem MbAt.cells (h : MbAt xb yb sa sc g0 l0 p0 g1 l1 p1 g2 l2 p2 b wr) : wr.cell? ⟨xb, 0, none⟩ = some (.slice sa b.names.length sc) ∧ wr.cell? ⟨xb, 1, none⟩ = some (.slice g0 l0 p0) ∧ wr.cell? ⟨xb, 2, none⟩ = some (.int .i64 b.t0.root) ∧ wr.cell? ⟨xb, 3, none⟩ = some (.slice g1 l1 p1) ∧ wr.cell? ⟨xb, 4, none⟩ = some (.int .i64 b.t1.root) ∧ wr.cell? ⟨xb, 5, none⟩ = some (.slice g2 l2 p2) ∧ wr.cell? ⟨xb, 6, none⟩ = some (.int .i64 b.t2.root) ∧ wr.cell? ⟨xb, 7, none⟩ = some (.int .i64 b.floor) ∧ ∀ o, wr.frozen? ⟨xb, o, none⟩ = false := by
  have h1 := h.box
  simp [World.cell?, World.frozen?, h1, baCells]
theorem MbAt.other (h : MbAt xb yb sa sc g0 l0 p0 g1 l1 p1 g2 l2 p2 b wr) (hne : xb ≠ yb) (o : Nat) (u : Value) : MbAt xb yb sa sc g0 l0 p0 g1 l1 p1 g2 l2 p2 b (wr.setCell ⟨yb, o, none⟩ u) := by
  obtain ⟨M, wA, h1, h2, h3, h4⟩ := h.base
  exact ⟨(heap_setCell_other _ ⟨yb, o, none⟩ xb _ hne).trans h.box, M, wA, h1, h2, h3.set' h2 _, h4⟩
theorem MbAt.other8 (h : MbAt xb yb sa sc g0 l0 p0 g1 l1 p1 g2 l2 p2 b wr) (hne : xb ≠ yb) (v0 v1 v2 v3 v4 v5 v6 v7 : Value) : MbAt xb yb sa sc g0 l0 p0 g1 l1 p1 g2 l2 p2 b ((((((((wr.setCell ⟨yb, 0, none⟩ v0).setCell ⟨yb, 1, none⟩ v1).setCell ⟨yb, 2, none⟩ v2).setCell ⟨yb, 3, none⟩ v3).setCell ⟨yb, 4, none⟩ v4).setCell ⟨yb, 5, none⟩ v5).setCell ⟨yb, 6, none⟩ v6).setCell ⟨yb, 7, none⟩ v7) :=
  (((((((h.other hne 0 v0).other hne 1 v1).other hne 2 v2).other hne 3 v3).other hne 4 v4).other hne 5 v5).other hne 6 v6).other hne 7 v7
theorem MbAt.put {M : Nat} {wA w0 : World} {old : Array Value} (hold : w0.heap[xb]? = some (.cells old 28)) (ho : ∃ a0 a1 a2 a3 a4 a5 a6 a7, old = #[a0, a1, a2, a3, a4, a5, a6, a7]) (hx : xb < M) (hy : yb < M) (hk : Keep M wA w0) (hb : ∀ w'', Keep M wA w'' → BaseAt w'' (.agg (baCells sa b.names.length sc g0 l0 p0 g1 l1 p1 g2 l2 p2 b)) b) :
    MbAt xb yb sa sc g0 l0 p0 g1 l1 p1 g2 l2 p2 b ((((((((w0.setCell ⟨xb, 0, none⟩ (.slice sa b.names.length sc)).setCell ⟨xb, 1, none⟩ (.slice g0 l0 p0)).setCell ⟨xb, 2, none⟩ (.int .i64 b.t0.root)).setCell ⟨xb, 3, none⟩ (.slice g1 l1 p1)).setCell ⟨xb, 4, none⟩ (.int .i64 b.t1.root)).setCell ⟨xb, 5, none⟩ (.slice g2 l2 p2)).setCell ⟨xb, 6, none⟩ (.int .i64 b.t2.root)).setCell ⟨xb, 7, none⟩ (.int .i64 b.floor)) := by
  obtain ⟨a0, a1, a2, a3, a4, a5, a6, a7, rfl⟩ := ho
  exact ⟨heap_set8 hold, M, wA, .inl hx, .inl hy, (((((((hk.set hx _).set hx _).set hx _).set hx _).set hx _).set hx _).set hx _).set hx _, hb⟩
end
theorem below_set8 {B xb : Nat} {w w0 : World} (h : Below B w w0) (hx : B ≤ xb) (v0 v1 v2 v3 v4 v5 v6 v7 : Value) : Below B w ((((((((w0.setCell ⟨xb, 0, none⟩ v0).setCell ⟨xb, 1, none⟩ v1).setCell ⟨xb, 2, none⟩ v2).setCell ⟨xb, 3, none⟩ v3).setCell ⟨xb, 4, none⟩ v4).setCell ⟨xb, 5, none⟩ v5).setCell ⟨xb, 6, none⟩ v6).setCell ⟨xb, 7, none⟩ v7) :=
  (((((((h.setCell hx _).setCell hx _).setCell hx _).setCell hx _).setCell hx _).setCell hx _).setCell hx _).setCell hx _
theorem one_names {ps : List Pnt} {b : Ba} (h : KB (ps.map asOne) b) : b.names.length ≤ 1 ∧ ∀ s ∈ b.names, s.size ≤ 140737488351232 := by
  rw [kb_one_names h]
  split
  · exact ⟨by simp, fun s hs => by cases hs⟩
  · exact ⟨by simp, fun s hs => by rw [List.mem_singleton.1 hs]; exact Nat.le_trans oneB_may.2 (by decide)⟩
theorem one_add {v : Value} {ps : List Pnt} {p : Pnt} {b : Ba} {w : World} (h : BaseAt w v b) (hk : KB (ps.map asOne) b) (hl : ps.length ≤ 100) (hp : PtOk p) (hsz : SizesAt w) :
    Calls Tryd.prog 12 #[v, .agg #[.string ⟨#[111, 110, 101]⟩, .int .i64 p.t, .int .i64 p.v]] w fun x w' => Below w.heap.size w w' ∧
      ∃ c ca cc cg0 cl0 cp0 cg1 cl1 cp1 cg2 cl2 cp2, x = .returned (.tuple #[.agg (baCells ca c.names.length cc cg0 cl0 cp0 cg1 cl1 cp1 cg2 cl2 cp2 c), .int .i64 0]) ∧ (∀ w'', Keep w.heap.size w' w'' → BaseAt w'' (.agg (baCells ca c.names.length cc cg0 cl0 cp0 cg1 cl1 cp1 cg2 cl2 cp2 c)) c) ∧ KB ((ps ++ [p]).map asOne) c := by
  obtain ⟨h1, h2⟩ := one_names hk
  refine (show Calls _ _ #[v, .agg #[.string oneB, .int .i64 p.t, .int .i64 p.v]] w _ from (baseAdd_ok (s := oneB) (time := p.t) (value := p.v) h h2 (Nat.le_trans oneB_may.2 (by decide)) hsz hk.st (by simp; omega) oneB_may.1 hp.1 hp.2.1 hp.2.2.1 hp.2.2.2 (by rw [hk.floor]; exact hp.1) (fun _ => by omega))).mono ?_
  rintro x w' ⟨hb, c, sa, sc, q0, l0, p0, q1, l1, p1, q2, l2, p2, rfl, hat, hn, hf, hst⟩
  refine ⟨hb, c, _, _, _, _, _, _, _, _, _, _, _, rfl, hat, ?_⟩
  rw [List.map_append]
  exact hk.add (p := asOne p) hn hf hst
theorem any_told {ps : List Pnt} {x y : Ba} {a z : Int} (hx : KB (ps.map asOne) x) (hy : KB (ps.reverse.map asOne) y) (hp : ∀ p ∈ ps, PtOk p) (hl : ps.length ≤ 100) (hr : rowsOk a z) :
    ∃ E R RW, ((ps = [] ∧ E = 6) ∨ (ps ≠ [] ∧ E = 0)) ∧ (totalE x oneB a z = E ∧ totalR x oneB a z = R) ∧ (totalE y oneB a z = E ∧ totalR y oneB a z = R) ∧ (rowsE x oneB 60 0 1048575 = E ∧ rowsR x oneB 60 0 1048575 = RW) ∧ (rowsE y oneB 60 0 1048575 = E ∧ rowsR y oneB 60 0 1048575 = RW) ∧ RW.length ≤ 500 := by
  obtain ⟨hn, hb⟩ := kb_any hx hy hp
  obtain ⟨-, t1, t2, -, -⟩ := told_same hx.st.may hy.st.may hn hb oneB 60 a z
  obtain ⟨-, -, -, r1, r2⟩ := told_same hx.st.may hy.st.may hn hb oneB 60 0 1048575
  refine ⟨totalE x oneB a z, _, _, ?_, ⟨rfl, rfl⟩, ⟨t1.symm, t2.symm⟩, ⟨?_, rfl⟩, ⟨?_, r2.symm⟩, ?_⟩
  all_goals have hs := kb_any_series hx
  all_goals by_cases h : ps = []
  all_goals have hnm := kb_one_names hx
  all_goals first | rw [if_pos h] at hs hnm | rw [if_neg h] at hs hnm
  · exact .inl ⟨h, (kb_none hx (by rw [hnm]; simp)).1⟩
  · exact .inr ⟨h, (hx.st.kn.total (by simp; omega) (place_nonneg.2 (by rw [hnm]; simp)) hr).1⟩
  · rw [(kb_none hx (by rw [hnm]; simp)).1]; exact (kb_rows_none hx (by rw [hnm]; simp)).1
  · rw [(hx.st.kn.total (by simp; omega) (place_nonneg.2 (by rw [hnm]; simp)) hr).1]
    exact (hx.st.kn.rows (by simp; omega) (place_nonneg.2 (by rw [hnm]; simp)) (k := 1) (by decide) (show rowsOk 0 1048575 by unfold rowsOk; omega)).1
  · rw [← r1, (kb_none hx (by rw [hnm]; simp)).1]; exact (kb_rows_none hx (by rw [hnm]; simp)).1
  · rw [← r1, (hx.st.kn.total (by simp; omega) (place_nonneg.2 (by rw [hnm]; simp)) hr).1]
    exact (hx.st.kn.rows (by simp; omega) (place_nonneg.2 (by rw [hnm]; simp)) (k := 1) (by decide) (show rowsOk 0 1048575 by unfold rowsOk; omega)).1
  · rw [(kb_rows_none hx (by rw [hnm]; simp)).2]; simp
  · have h1 : rowsE x oneB 60 0 1048575 = 0 := (hx.st.kn.rows (by simp; omega) (place_nonneg.2 (by rw [hnm]; simp)) (k := 1) (by decide) (show rowsOk 0 1048575 by unfold rowsOk; omega)).1
    have h2 : ¬ 500 < (rowsL x oneB 60 0 1048575).length := fun hh => by
      have := (rowsE_long (n := 60) (a := 0) (z := 1048575) (k := 1) hs (by decide) rfl (by unfold rowsOk; omega) hh).1
      omega
    unfold rowsR
    rw [if_pos h1]; omega
set_option maxRecDepth 100000 in
set_option maxHeartbeats 8000000 in
theorem basesAny_any {v : Value} {xs : List Rw} {fr mo : Int} {w : World} (h : RwsAt w v xs) (hx : ∀ a ∈ xs, a.ok) (hf : i64 fr) (hm : i64 mo) (hsz : SizesAt w) :
    Calls Tryd.prog 6 #[v, .int .i64 fr, .int .i64 mo] w fun e w' => e = .returned (.bool true) ∧ Below w.heap.size w w' := by
  obtain ⟨ao, cap, rfl⟩ := h.isSlice
  have HKB := Lib.hid (show Calls Tryd.prog 18 #[.slice ao xs.length cap, .int .i64 30] w (KbPost xs 30 w) from kBase_any (most := 30) h hx (by decide) hsz)
  have HSZ := Lib.hid hsz
  have HPA := Lib.hid fun W => picked_any2 fr 9000 W hf.1 hf.2 (by decide) (by decide)
  have HPM := Lib.hid fun W => picked_any2 mo 9000 W hm.1 hm.2 (by decide) (by decide)
  have hra := picked_range (n := fr) (m := 9000) (by decide)
  have hrm := picked_range (n := mo) (m := 9000) (by decide)
  obtain ⟨a, ha⟩ : ∃ a, picked fr 9000 = a := ⟨_, rfl⟩
  obtain ⟨m, hm'⟩ : ∃ m, picked mo 9000 = m := ⟨_, rfl⟩
  rw [ha] at HPA hra
  rw [hm'] at HPM hrm
  have hwr : IntKind.i64.wrap (a + m) = a + m := IntWalk.i64_in _ (by omega)
  clear h hx hsz hf hm ha hm'
  go_enter Tryd.func6, Tryd.ntmps6
  go_upto_region 2 with (go_at_call 18; (with_reducible refine HKB.out.mono ?_); rintro e w1 ⟨hb1, sa, sc, g0, l0, p0, g1, l1, p1, g2, l2, p2, b, pa, pc, pts, rfl, hat, hown, hkb, heq⟩; have HHK := Lib.hid (And.intro hkb heq); clear hkb heq)
  obtain ⟨hkb, heq⟩ := HHK.out
  obtain ⟨W1, hW1⟩ : ∃ W1, W1 = w1.alloc (.cells (baCells sa b.names.length sc g0 l0 p0 g1 l1 p1 g2 l2 p2 b) 28) := ⟨_, rfl⟩
  have hb1' : Below w1.heap.size w1 W1 := by rw [hW1]; exact belowAuto
  have hl30 : pts.length ≤ 30 := by rw [heq, List.length_map, List.length_take]; omega
  have hpo : ∀ p ∈ pts, PtOk p := fun p hp => by
    rw [heq] at hp
    obtain ⟨r, -, rfl⟩ := List.mem_map.1 hp
    exact (pointF_early r).1
  have HW1 := Lib.hid (Below.trans' hb1 hb1' hb1.size)
  have hpa := (hown.below hb1' (Nat.le_refl _)).at (show pts.length ≤ 1000000 by omega)
  obtain ⟨ao1, cap1, hv1, a1, a2, a3, a4, a5⟩ := hpa
  injection hv1 with e1 _ e3
  subst e1 e3
  have HP := Lib.hid (And.intro hl30 hpo)
  have HN1 := Lib.hid (baseNew_keep W1)
  rw [← hW1]
  clear hW1 hb1 hb1' hat hown hkb heq hl30 hpo HHK HKB a1 a2 a3 a4
  go_upto_region 3 with (go_at_call 26; (with_reducible refine HN1.out.mono ?_); rintro e w2 ⟨⟨v2, rfl, hbn⟩, hb2⟩; obtain ⟨xa, xc, xg0, xl0, xp0, xg1, xl1, xp1, xg2, xl2, xp2, rfl, -⟩ := (hbn w2 (Keep.refl _ _)).open)
  obtain ⟨W2, hW2⟩ : ∃ W2, W2 = w2.alloc (.cells (baCells xa newB.names.length xc xg0 xl0 xp0 xg1 xl1 xp1 xg2 xl2 xp2 newB) 28) := ⟨_, rfl⟩
  have hb2' : Below w2.heap.size w2 W2 := by rw [hW2]; exact belowAuto
  have k2 : W2.heap[w2.heap.size]? = some (.cells (baCells xa newB.names.length xc xg0 xl0 xp0 xg1 xl1 xp1 xg2 xl2 xp2 newB) 28) := by rw [hW2]; exact heap_new _ _ rfl
  have hz2 : W2.heap.size = w2.heap.size + 1 := by rw [hW2]; simp
  have hs2 := hb2.size
  have HX := Lib.hid (And.intro k2 (And.intro hbn (And.intro (Below.trans' hb2 hb2' hb2.size) (Keep.of (M := W1.heap.size + 2) hb2' (Nat.le_refl _)))))
  have HN2 := Lib.hid (baseNew_keep W2)
  rw [← hW2]
  clear hW2 hb2 hb2' k2 hbn HN1
  go_upto_region 4 with (go_at_call 26; (with_reducible refine HN2.out.mono ?_); rintro e w3 ⟨⟨v3, rfl, hbn⟩, hb3⟩; obtain ⟨ya, yc, yg0, yl0, yp0, yg1, yl1, yp1, yg2, yl2, yp2, rfl, -⟩ := (hbn w3 (Keep.refl _ _)).open)
  obtain ⟨W3, hW3⟩ : ∃ W3, W3 = w3.alloc (.cells (baCells ya newB.names.length yc yg0 yl0 yp0 yg1 yl1 yp1 yg2 yl2 yp2 newB) 28) := ⟨_, rfl⟩
  have hb3' : Below w3.heap.size w3 W3 := by rw [hW3]; exact belowAuto
  have k3 : W3.heap[w3.heap.size]? = some (.cells (baCells ya newB.names.length yc yg0 yl0 yp0 yg1 yl1 yp1 yg2 yl2 yp2 newB) 28) := by rw [hW3]; exact heap_new _ _ rfl
  have hs3 := hb3.size
  obtain ⟨hx1, hx2, hx3, hx4⟩ := HX.out
  have h23 := Below.trans' hb3 hb3' hb3.size
  have hMX : MbAt w2.heap.size w3.heap.size xa xc xg0 xl0 xp0 xg1 xl1 xp1 xg2 xl2 xp2 newB W3 := ⟨(h23.block _ (by omega)).trans hx1, W1.heap.size + 2, w2, .inr (Nat.le_refl _), .inr (by omega), hx4.trans (Keep.of h23 (Nat.le_refl _)), hx2⟩
  have hMY : MbAt w3.heap.size w2.heap.size ya yc yg0 yl0 yp0 yg1 yl1 yp1 yg2 yl2 yp2 newB W3 := ⟨k3, W2.heap.size + 2, w3, .inr (Nat.le_refl _), .inl (by omega), Keep.of hb3' (Nat.le_refl _), hbn⟩
  have HI := Lib.hid (And.intro (show Below W1.heap.size W1 W3 from Below.trans' hx3 h23 hx3.size) (And.intro hMX hMY))
  have HNE := Lib.hid (show w2.heap.size ≠ w3.heap.size ∧ W1.heap.size ≤ w2.heap.size ∧ W1.heap.size ≤ w3.heap.size from ⟨by omega, by omega, by omega⟩)
  rw [← hW3]
  obtain ⟨xb, hxb⟩ : ∃ q, w2.heap.size = q := ⟨_, rfl⟩
  obtain ⟨yb, hyb⟩ : ∃ q, w3.heap.size = q := ⟨_, rfl⟩
  rw [hxb, hyb] at HI HNE ⊢
  clear hW3 hb3 hb3' k3 hs3 hs2 hz2 hx1 hx2 hx3 hx4 h23 hMX hMY hbn HN2 HX hxb hyb
  go_wp2_with fail
  go_loopg [37] pts.length (fun g i wr => ∃ k : Nat, k ≤ pts.length ∧ g = pts.length - k ∧ i = .int .i64 k ∧ Hid (Below W1.heap.size W1 wr ∧ ∃ xa xc xg0 xl0 xp0 xg1 xl1 xp1 xg2 xl2 xp2 ya yc yg0 yl0 yp0 yg1 yl1 yp1 yg2 yl2 yp2 bx bY, MbAt xb yb xa xc xg0 xl0 xp0 xg1 xl1 xp1 xg2 xl2 xp2 bx wr ∧ MbAt yb xb ya yc yg0 yl0 yp0 yg1 yl1 yp1 yg2 yl2 yp2 bY wr ∧ KB ((pts.take k).map asOne) bx ∧ KB ((pts.reverse.take k).map asOne) bY))
  case atStart => exact ⟨0, Nat.zero_le _, rfl, rfl, Lib.hid ⟨HI.out.1, _, _, _, _, _, _, _, _, _, _, _, _, _, _, _, _, _, _, _, _, _, _, newB, newB, HI.out.2.1, HI.out.2.2, kb_start, kb_start⟩⟩
  case round =>
    clear HI
    obtain ⟨k, hk, rfl, rfl, HR⟩ := hrel
    obtain ⟨hrb, xa, xc, xg0, xl0, xp0, xg1, xl1, xp1, xg2, xl2, xp2, ya, yc, yg0, yl0, yp0, yg1, yl1, yp1, yg2, yl2, yp2, bx, bY, hmx, hmy, hkx, hky⟩ := HR.out
    have HB := Lib.hid hrb
    have HX := Lib.hid (And.intro hmx hkx)
    have HY := Lib.hid (And.intro hmy hky)
    clear HR hrb hmx hkx hmy hky
    by_cases hlt : k < pts.length
    · have hlt3 : (k : Int) < (pts.length : Int) := by omega
      obtain ⟨ab, aoff, rfl, abb, ac⟩ := a5 (by omega)
      obtain ⟨c0, c1, c2⟩ := pt_cells HB.out abb ac hlt
      have hlt2 : pts.length - 1 - k < pts.length := by omega
      obtain ⟨d0, d1, d2⟩ := pt_cells HB.out abb ac hlt2
      have hix := fun w' => idx_pts (ab := ab) (aoff := aoff) (n := pts.length) (cap := pc) (show (k : Int) = ((k : Nat) : Int) by rfl) hlt w'
      have hix2 := fun w' => idx_pts (ab := ab) (aoff := aoff) (n := pts.length) (cap := pc) (show (pts.length : Int) - 1 - k = ((pts.length - 1 - k : Nat) : Int) by omega) hlt2 w'
      have hw1 : IntKind.i64.wrap ((pts.length : Int) - 1) = (pts.length : Int) - 1 := IntWalk.i64_in _ (by have := HP.out.1; omega)
      have hw2 : IntKind.i64.wrap ((pts.length : Int) - 1 - k) = (pts.length : Int) - 1 - k := IntWalk.i64_in _ (by have := HP.out.1; omega)
      have htk := List.take_succ_eq_append_getElem hlt
      have hltr : k < pts.reverse.length := by rw [List.length_reverse]; exact hlt
      have htr := List.take_succ_eq_append_getElem hltr
      rw [List.getElem_reverse] at htr
      have hpx := HP.out.2 _ (List.getElem_mem hlt)
      have hpy := HP.out.2 _ (List.getElem_mem hlt2)
      obtain ⟨p, hp⟩ : ∃ p, pts[k] = p := ⟨_, rfl⟩
      obtain ⟨q, hq⟩ : ∃ q, pts[pts.length - 1 - k] = q := ⟨_, rfl⟩
      rw [hp] at c0 c1 c2 htk hpx
      rw [hq] at d0 d1 d2 htr hpy
      have HTK := Lib.hid (And.intro htk htr)
      have HPP := Lib.hid (And.intro hpx hpy)
      have habs := HB.out.size
      have hab1 : ab < wr.heap.size := by omega
      have hab2 : ab ≠ wr.heap.size := by omega
      have hab3 : ¬ wr.heap.size = ab := by omega
      clear htk htr hp hq hpx hpy ac a5 hltr habs
      go_upto_region 9 with (fail)
      obtain ⟨V8, hV8⟩ : ∃ V, V = (wr.alloc (.cells #[.string p.s, .int .i64 p.t, .int .i64 p.v] 30)).alloc (.cells #[.string q.s, .int .i64 q.t, .int .i64 q.v] 30) := ⟨_, rfl⟩
      have hb8 : Below wr.heap.size wr V8 := by rw [hV8]; exact belowAuto
      have hz8 : V8.heap.size = wr.heap.size + 2 := by rw [hV8]; simp
      have kp8 : V8.heap[wr.heap.size]? = some (.cells #[.string p.s, .int .i64 p.t, .int .i64 p.v] 30) := by rw [hV8, Below.heap_alloc _ _ _ (by simp)]; exact heap_new _ _ rfl
      have kq8 : V8.heap[wr.heap.size + 1]? = some (.cells #[.string q.s, .int .i64 q.t, .int .i64 q.v] 30) := by rw [hV8]; exact heap_new _ _ (by simp)
      have fp : ∀ o, V8.frozen? ⟨wr.heap.size, o, none⟩ = false := by intro o; simp [World.frozen?, kp8]
      have fq : ∀ o, V8.frozen? ⟨wr.heap.size + 1, o, none⟩ = false := by intro o; simp [World.frozen?, kq8]
      have e8 : V8.cell? ⟨wr.heap.size, 0, none⟩ = some (.string p.s) := by simp [World.cell?, kp8]
      have e9 : V8.cell? ⟨wr.heap.size + 1, 0, none⟩ = some (.string q.s) := by simp [World.cell?, kq8]
      have HV := Lib.hid (And.intro hb8 (And.intro hz8 (And.intro kp8 kq8)))
      rw [← hV8]
      clear hV8 hb8 hz8 kp8 kq8 c0 c1 c2 d0 d1 d2 hix hix2 hw1 hw2
      go_upto_region 11 with (fail)
      obtain ⟨hb8, hz8, kp8, kq8⟩ := HV.out
      obtain ⟨V, hV⟩ : ∃ V, V = ((V8.setCell ⟨wr.heap.size, 0, none⟩ (.string ⟨#[111, 110, 101]⟩)).setCell ⟨wr.heap.size + 1, 0, none⟩ (.string ⟨#[111, 110, 101]⟩)) := ⟨_, rfl⟩
      have hbV : Below wr.heap.size wr V := by rw [hV]; exact (hb8.setCell (Nat.le_refl _) _).setCell (by show wr.heap.size ≤ wr.heap.size + 1; omega) _
      have kpV : V.heap[wr.heap.size]? = some (.cells #[.string ⟨#[111, 110, 101]⟩, .int .i64 p.t, .int .i64 p.v] 30) := by
        rw [hV]; exact (heap_setCell_other _ ⟨wr.heap.size + 1, 0, none⟩ _ _ (by show wr.heap.size ≠ wr.heap.size + 1; omega)).trans (heap_set_first kp8)
      have kqV : V.heap[wr.heap.size + 1]? = some (.cells #[.string ⟨#[111, 110, 101]⟩, .int .i64 q.t, .int .i64 q.v] 30) := by
        rw [hV]; exact heap_set_first ((heap_setCell_other _ ⟨wr.heap.size, 0, none⟩ _ _ (by show wr.heap.size + 1 ≠ wr.heap.size; omega)).trans kq8)
      have hzV : V.heap.size = wr.heap.size + 2 := by rw [hV]; simp only [heap_setCell_size]; exact hz8
      rw [← hV]
      obtain ⟨pb, hpb⟩ : ∃ pb, wr.heap.size = pb := ⟨_, rfl⟩
      have HBV := Lib.hid (Below.trans' HB.out hbV HB.out.size)
      have HXV := Lib.hid (HX.out.1.later hbV)
      have HYV := Lib.hid (HY.out.1.later hbV)
      have HQV := Lib.hid (And.intro kqV hzV)
      rw [hpb] at kpV HQV ⊢
      obtain ⟨x0, x1, x2, x3, x4, x5, x6, x7, -⟩ := HXV.out.cells
      obtain ⟨r0, r1, r2⟩ : V.cell? ⟨pb, 0, none⟩ = some (.string ⟨#[111, 110, 101]⟩) ∧ V.cell? ⟨pb, 1, none⟩ = some (.int .i64 p.t) ∧ V.cell? ⟨pb, 2, none⟩ = some (.int .i64 p.v) := by simp [World.cell?, kpV]
      have HA1 := Lib.hid (one_add HXV.out.at HX.out.2 (by rw [List.length_take]; have := HP.out.1; omega) HPP.out.1 (HSZ.out.below (Below.trans' HW1.out HBV.out HW1.out.size)))
      clear hV hbV kpV kqV hzV hb8 hz8 kp8 kq8 fp fq e8 e9 hab1 hab2 hab3 hpb HV hlt3
      go_upto_region 12 with (go_at_call 12; (with_reducible refine HA1.out.mono ?_); rintro e w4 ⟨hb4, c, ca, cc, cg0, cl0, cp0, cg1, cl1, cp1, cg2, cl2, cp2, rfl, hca, hcn⟩; have HC := Lib.hid (And.intro hca hcn); clear hca hcn)
      obtain ⟨W4, hW4⟩ : ∃ V, V = w4.alloc (.cells (baCells ca c.names.length cc cg0 cl0 cp0 cg1 cl1 cp1 cg2 cl2 cp2 c) 28) := ⟨_, rfl⟩
      have hb4' : Below w4.heap.size w4 W4 := by rw [hW4]; exact belowAuto
      have k4 : W4.heap[w4.heap.size]? = some (.cells (baCells ca c.names.length cc cg0 cl0 cp0 cg1 cl1 cp1 cg2 cl2 cp2 c) 28) := by rw [hW4]; exact heap_new _ _ rfl
      have hz4 : W4.heap.size = w4.heap.size + 1 := by rw [hW4]; simp
      have hs4 := hb4.size
      have hb44 := Below.trans' hb4 hb4' hb4.size
      have HB4 := Lib.hid (And.intro (Below.trans' HBV.out hb44 HBV.out.size) (And.intro hb4 (And.intro hb4' hz4)))
      have HX4 := Lib.hid (HXV.out.later hb44)
      have HY4 := Lib.hid (HYV.out.later hb44)
      have HK4 := Lib.hid k4
      obtain ⟨y0, y1, y2, y3, y4, y5, y6, y7, -⟩ := HY4.out.cells
      have kq4 := (hb44.block (pb + 1) (by have := HQV.out.2; omega)).trans HQV.out.1
      obtain ⟨s0, s1, s2⟩ : W4.cell? ⟨pb + 1, 0, none⟩ = some (.string ⟨#[111, 110, 101]⟩) ∧ W4.cell? ⟨pb + 1, 1, none⟩ = some (.int .i64 q.t) ∧ W4.cell? ⟨pb + 1, 2, none⟩ = some (.int .i64 q.v) := by simp [World.cell?, kq4]
      have HA2 := Lib.hid (one_add HY4.out.at HY.out.2 (by rw [List.length_take]; have := HP.out.1; omega) HPP.out.2 (HSZ.out.below (Below.trans' HW1.out HB4.out.1 HW1.out.size)))
      rw [← hW4]
      obtain ⟨pa', hpa'⟩ : ∃ q, w4.heap.size = q := ⟨_, rfl⟩
      rw [hpa'] at HK4 ⊢
      have HPA' := Lib.hid hpa'
      clear hW4 hb4 hb4' k4 hz4 hs4 hb44 kq4 x0 x1 x2 x3 x4 x5 x6 x7 r0 r1 r2 HA1 hpa'
      go_upto_region 13 with (go_at_call 12; (with_reducible refine HA2.out.mono ?_); rintro e w5 ⟨hb5, d, da, dc, dg0, dl0, dp0, dg1, dl1, dp1, dg2, dl2, dp2, rfl, hda, hdn⟩; have HD := Lib.hid (And.intro hda hdn); clear hda hdn)
      obtain ⟨W5, hW5⟩ : ∃ V, V = w5.alloc (.cells (baCells da d.names.length dc dg0 dl0 dp0 dg1 dl1 dp1 dg2 dl2 dp2 d) 28) := ⟨_, rfl⟩
      have hb5' : Below w5.heap.size w5 W5 := by rw [hW5]; exact belowAuto
      have k5 : W5.heap[w5.heap.size]? = some (.cells (baCells da d.names.length dc dg0 dl0 dp0 dg1 dl1 dp1 dg2 dl2 dp2 d) 28) := by rw [hW5]; exact heap_new _ _ rfl
      have hz5 : W5.heap.size = w5.heap.size + 1 := by rw [hW5]; simp
      have hb55 := Below.trans' hb5 hb5' hb5.size
      have HB5 := Lib.hid (And.intro (Below.trans' HB4.out.1 hb55 HB4.out.1.size) (And.intro hb5 (And.intro hb5' hb55)))
      have HX5 := Lib.hid (HX4.out.later hb55)
      have HY5 := Lib.hid (HY4.out.later hb55)
      have hpa4 : pa' < W4.heap.size := by have := HB4.out.2.2.2; have := HPA'.out; omega
      have k45 := (hb55.block pa' hpa4).trans HK4.out
      obtain ⟨x0, x1, x2, x3, x4, x5, x6, x7⟩ : W5.cell? ⟨pa', 0, none⟩ = some (.slice ca c.names.length cc) ∧ W5.cell? ⟨pa', 1, none⟩ = some (.slice cg0 cl0 cp0) ∧ W5.cell? ⟨pa', 2, none⟩ = some (.int .i64 c.t0.root) ∧ W5.cell? ⟨pa', 3, none⟩ = some (.slice cg1 cl1 cp1) ∧ W5.cell? ⟨pa', 4, none⟩ = some (.int .i64 c.t1.root) ∧ W5.cell? ⟨pa', 5, none⟩ = some (.slice cg2 cl2 cp2) ∧ W5.cell? ⟨pa', 6, none⟩ = some (.int .i64 c.t2.root) ∧ W5.cell? ⟨pa', 7, none⟩ = some (.int .i64 c.floor) := by simp [World.cell?, k45, baCells]
      obtain ⟨z0, z1, z2, z3, z4, z5, z6, z7⟩ : W5.cell? ⟨w5.heap.size, 0, none⟩ = some (.slice da d.names.length dc) ∧ W5.cell? ⟨w5.heap.size, 1, none⟩ = some (.slice dg0 dl0 dp0) ∧ W5.cell? ⟨w5.heap.size, 2, none⟩ = some (.int .i64 d.t0.root) ∧ W5.cell? ⟨w5.heap.size, 3, none⟩ = some (.slice dg1 dl1 dp1) ∧ W5.cell? ⟨w5.heap.size, 4, none⟩ = some (.int .i64 d.t1.root) ∧ W5.cell? ⟨w5.heap.size, 5, none⟩ = some (.slice dg2 dl2 dp2) ∧ W5.cell? ⟨w5.heap.size, 6, none⟩ = some (.int .i64 d.t2.root) ∧ W5.cell? ⟨w5.heap.size, 7, none⟩ = some (.int .i64 d.floor) := by simp [World.cell?, k5, baCells]
      obtain ⟨f0, f1, f2, f3, f4, f5, f6, f7, gx⟩ := HX5.out.cells
      obtain ⟨v0, v1, v2, v3, v4, v5, v6, v7, gy⟩ := HY5.out.cells
      have HK5 := Lib.hid k5
      have hs5 := hb5.size
      have hxlt := HX5.out.lt
      have hylt := HY5.out.lt
      have hx4 := HX4.out.lt
      have hy4 := HY4.out.lt
      have hn1 : w5.heap.size ≠ xb := by omega
      have hn2 : ¬ xb = w5.heap.size := by omega
      have hn3 : xb < w5.heap.size := by omega
      have hn4 : xb ≠ yb := HNE.out.1
      have hn5 : ¬ yb = xb := fun h => HNE.out.1 h.symm
      rw [← hW5]
      obtain ⟨qa, hqa⟩ : ∃ q, w5.heap.size = q := ⟨_, rfl⟩
      rw [hqa] at z0 z1 z2 z3 z4 z5 z6 z7 HK5 hn1 hn2 hn3 ⊢
      clear hW5 hb5 hb5' k5 hz5 hb55 y0 y1 y2 y3 y4 y5 y6 y7 s0 s1 s2 HA2 k45 hpa4 hs5 hxlt hylt hx4 hy4 hqa
      go_upto_region 16 with (fail)
      obtain ⟨V6, hV6⟩ : ∃ V, V = (((((((((W5).setCell ⟨xb, 0, none⟩ (.slice ca c.names.length cc)).setCell ⟨xb, 1, none⟩ (.slice cg0 cl0 cp0)).setCell ⟨xb, 2, none⟩ (.int .i64 c.t0.root)).setCell ⟨xb, 3, none⟩ (.slice cg1 cl1 cp1)).setCell ⟨xb, 4, none⟩ (.int .i64 c.t1.root)).setCell ⟨xb, 5, none⟩ (.slice cg2 cl2 cp2)).setCell ⟨xb, 6, none⟩ (.int .i64 c.t2.root)).setCell ⟨xb, 7, none⟩ (.int .i64 c.floor)) := ⟨_, rfl⟩
      have hxV : xb < V.heap.size := HXV.out.lt
      have hyV : yb < V.heap.size := HYV.out.lt
      have HX6 := Lib.hid (show MbAt xb yb ca cc cg0 cl0 cp0 cg1 cl1 cp1 cg2 cl2 cp2 c V6 by
        rw [hV6]
        exact MbAt.put HX5.out.box ⟨_, _, _, _, _, _, _, _, rfl⟩ hxV hyV ((Keep.of HB4.out.2.2.1 (Nat.le_refl _)).trans (Keep.of HB5.out.2.2.2 (Nat.le_refl _))) HC.out.1)
      have HY6 := Lib.hid (show MbAt yb xb ya yc yg0 yl0 yp0 yg1 yl1 yp1 yg2 yl2 yp2 bY V6 by rw [hV6]; exact HY5.out.other8 hn5 _ _ _ _ _ _ _ _)
      have HB6 := Lib.hid (show Below W1.heap.size W1 V6 by rw [hV6]; exact below_set8 HB5.out.1 HNE.out.2.1 _ _ _ _ _ _ _ _)
      have HK6 := Lib.hid (show V6.heap[qa]? = some (.cells (baCells da d.names.length dc dg0 dl0 dp0 dg1 dl1 dp1 dg2 dl2 dp2 d) 28) by rw [hV6]; exact (heap_set8_other hn1).trans HK5.out)
      have hx4 : xb < W4.heap.size := HX4.out.lt
      have hy4 : yb < W4.heap.size := HY4.out.lt
      have HKE := Lib.hid (show Keep W4.heap.size w5 V6 by rw [hV6]; exact (((((((((Keep.of HB5.out.2.2.1 (Nat.le_refl _)).set hx4 _).set hx4 _).set hx4 _).set hx4 _).set hx4 _).set hx4 _).set hx4 _).set hx4 _))
      have k6 := HK6.out
      rw [← hV6]
      clear x0 x1 x2 x3 x4 x5 x6 x7 z0 z1 z2 z3 z4 z5 z6 z7 f0 f1 f2 f3 f4 f5 f6 f7 gx v0 v1 v2 v3 v4 v5 v6 v7 gy hV6
      obtain ⟨z0, z1, z2, z3, z4, z5, z6, z7⟩ : V6.cell? ⟨qa, 0, none⟩ = some (.slice da d.names.length dc) ∧ V6.cell? ⟨qa, 1, none⟩ = some (.slice dg0 dl0 dp0) ∧ V6.cell? ⟨qa, 2, none⟩ = some (.int .i64 d.t0.root) ∧ V6.cell? ⟨qa, 3, none⟩ = some (.slice dg1 dl1 dp1) ∧ V6.cell? ⟨qa, 4, none⟩ = some (.int .i64 d.t1.root) ∧ V6.cell? ⟨qa, 5, none⟩ = some (.slice dg2 dl2 dp2) ∧ V6.cell? ⟨qa, 6, none⟩ = some (.int .i64 d.t2.root) ∧ V6.cell? ⟨qa, 7, none⟩ = some (.int .i64 d.floor) := by simp [World.cell?, k6, baCells]
      obtain ⟨v0, v1, v2, v3, v4, v5, v6, v7, gy⟩ := HY6.out.cells
      clear k6
      go_upto_region 17 with (fail)
      obtain ⟨V7, hV7⟩ : ∃ V, V = (((((((((V6).setCell ⟨yb, 0, none⟩ (.slice da d.names.length dc)).setCell ⟨yb, 1, none⟩ (.slice dg0 dl0 dp0)).setCell ⟨yb, 2, none⟩ (.int .i64 d.t0.root)).setCell ⟨yb, 3, none⟩ (.slice dg1 dl1 dp1)).setCell ⟨yb, 4, none⟩ (.int .i64 d.t1.root)).setCell ⟨yb, 5, none⟩ (.slice dg2 dl2 dp2)).setCell ⟨yb, 6, none⟩ (.int .i64 d.t2.root)).setCell ⟨yb, 7, none⟩ (.int .i64 d.floor)) := ⟨_, rfl⟩
      have HX7 := Lib.hid (show MbAt xb yb ca cc cg0 cl0 cp0 cg1 cl1 cp1 cg2 cl2 cp2 c V7 by rw [hV7]; exact HX6.out.other8 hn4 _ _ _ _ _ _ _ _)
      have HY7 := Lib.hid (show MbAt yb xb da dc dg0 dl0 dp0 dg1 dl1 dp1 dg2 dl2 dp2 d V7 by
        rw [hV7]
        exact MbAt.put HY6.out.box ⟨_, _, _, _, _, _, _, _, rfl⟩ hy4 hx4 HKE.out HD.out.1)
      have HB7 := Lib.hid (show Below W1.heap.size W1 V7 by rw [hV7]; exact below_set8 HB6.out HNE.out.2.2 _ _ _ _ _ _ _ _)
      rw [← hV7]
      clear hV7 z0 z1 z2 z3 z4 z5 z6 z7 v0 v1 v2 v3 v4 v5 v6 v7 gy hn1 hn2 hn3 hn4 hn5 hx4 hy4 hxV hyV
      have hkw : IntKind.i64.wrap ((k : Int) + 1) = (k : Int) + 1 := IntWalk.i64_in _ (by have := HP.out.1; omega)
      go_wp2_with fail
      go_roundg (pts.length - (k + 1))
      case measure => omega
      case rel => exact ⟨k + 1, hlt, rfl, by go_num, Lib.hid ⟨HB7.out, _, _, _, _, _, _, _, _, _, _, _, _, _, _, _, _, _, _, _, _, _, _, c, d, HX7.out, HY7.out, by rw [HTK.out.1]; exact HC.out.2, by rw [HTK.out.2]; exact HD.out.2⟩⟩
    · have htk : pts.take k = pts := List.take_of_length_le (by omega)
      have htr : pts.reverse.take k = pts.reverse := List.take_of_length_le (by rw [List.length_reverse]; omega)
      rw [htk] at HX
      rw [htr] at HY
      have HNX := Lib.hid (And.intro (one_names HX.out.2).2 (one_names HY.out.2).2)
      have HXE := Lib.hid HX.out.1
      have HYE := Lib.hid HY.out.1
      have HBW := Lib.hid (Below.trans' HW1.out HB.out HW1.out.size)
      obtain ⟨E, R, RW, hE, ⟨t1, t2⟩, ⟨t3, t4⟩, ⟨r1, r2⟩, ⟨r3, r4⟩, hrl⟩ := any_told (a := a) (z := a + m) HX.out.2 HY.out.2 HP.out.2 (by have := HP.out.1; omega) (by unfold rowsOk; omega)
      clear htk htr
      rcases hE with ⟨he, rfl⟩ | ⟨he, rfl⟩
      · have HTX := Lib.hid fun W (hb : Below w.heap.size w W) (hx : MbAt xb yb xa xc xg0 xl0 xp0 xg1 xl1 xp1 xg2 xl2 xp2 bx W) => (by have := total_any (s := oneB) (a := a) (z := a + m) hx.at HNX.out.1 (HSZ.out.below hb); rw [t1, t2] at this; exact this : Calls Tryd.prog 24 #[.agg (baCells xa bx.names.length xc xg0 xl0 xp0 xg1 xl1 xp1 xg2 xl2 xp2 bx), .string ⟨#[111, 110, 101]⟩, .int .i64 a, .int .i64 (a + m)] W fun e w' => Below W.heap.size W w' ∧ e = .returned (.tuple #[.agg #[.int .i64 R.c, .int .i64 R.s, .int .i64 R.mi, .int .i64 R.ma, .int .i64 R.t, .int .i64 R.l], .int .i64 6]))
        have HTY := Lib.hid fun W (hb : Below w.heap.size w W) (hy : MbAt yb xb ya yc yg0 yl0 yp0 yg1 yl1 yp1 yg2 yl2 yp2 bY W) => (by have := total_any (s := oneB) (a := a) (z := a + m) hy.at HNX.out.2 (HSZ.out.below hb); rw [t3, t4] at this; exact this : Calls Tryd.prog 24 #[.agg (baCells ya bY.names.length yc yg0 yl0 yp0 yg1 yl1 yp1 yg2 yl2 yp2 bY), .string ⟨#[111, 110, 101]⟩, .int .i64 a, .int .i64 (a + m)] W fun e w' => Below W.heap.size W w' ∧ e = .returned (.tuple #[.agg #[.int .i64 R.c, .int .i64 R.s, .int .i64 R.mi, .int .i64 R.ma, .int .i64 R.t, .int .i64 R.l], .int .i64 6]))
        have HRX := Lib.hid fun W (hb : Below w.heap.size w W) (hx : MbAt xb yb xa xc xg0 xl0 xp0 xg1 xl1 xp1 xg2 xl2 xp2 bx W) => (by have := rows_any (s := oneB) (n := 60) (a := 0) (z := 1048575) hx.at HNX.out.1 (HSZ.out.below hb); rw [r1, r2] at this; exact this : Calls Tryd.prog 21 #[.agg (baCells xa bx.names.length xc xg0 xl0 xp0 xg1 xl1 xp1 xg2 xl2 xp2 bx), .string ⟨#[111, 110, 101]⟩, .int .i64 60, .int .i64 0, .int .i64 1048575] W (RowsPost W.heap.size W RW 6))
        have HRY := Lib.hid fun W (hb : Below w.heap.size w W) (hy : MbAt yb xb ya yc yg0 yl0 yp0 yg1 yl1 yp1 yg2 yl2 yp2 bY W) => (by have := rows_any (s := oneB) (n := 60) (a := 0) (z := 1048575) hy.at HNX.out.2 (HSZ.out.below hb); rw [r3, r4] at this; exact this : Calls Tryd.prog 21 #[.agg (baCells ya bY.names.length yc yg0 yl0 yp0 yg1 yl1 yp1 yg2 yl2 yp2 bY), .string ⟨#[111, 110, 101]⟩, .int .i64 60, .int .i64 0, .int .i64 1048575] W (RowsPost W.heap.size W RW 6))
        have HRL := Lib.hid hrl
        subst he
        clear t1 t2 t3 t4 r1 r2 r3 r4 hrl HX HY
        go_upto_region 19 with (go_at_call 20; (with_reducible refine (HPA.out _).mono ?_); rintro e w4 ⟨rfl, hb4⟩)
        have HB4 := Lib.hid (Below.trans' HBW.out hb4 HBW.out.size)
        have HX4 := Lib.hid (HXE.out.later hb4)
        have HY4 := Lib.hid (HYE.out.later hb4)
        clear hb4
        go_upto_region 20 with (go_at_call 20; (with_reducible refine (HPM.out _).mono ?_); rintro e w5 ⟨rfl, hb5⟩)
        have HB5 := Lib.hid (Below.trans' HB4.out hb5 HB4.out.size)
        have HX5 := Lib.hid (HX4.out.later hb5)
        have HY5 := Lib.hid (HY4.out.later hb5)
        obtain ⟨x0, x1, x2, x3, x4, x5, x6, x7, -⟩ := HX5.out.cells
        clear hb5
        go_upto_region 21 with (go_at_call 24; (with_reducible refine (HTX.out _ HB5.out HX5.out).mono ?_); rintro e w6 ⟨hb6, rfl⟩)
        obtain ⟨V6, hV6⟩ : ∃ V, V = w6.alloc (.cells #[.int .i64 R.c, .int .i64 R.s, .int .i64 R.mi, .int .i64 R.ma, .int .i64 R.t, .int .i64 R.l] 55) := ⟨_, rfl⟩
        have hb6' : Below w6.heap.size w6 V6 := by rw [hV6]; exact belowAuto
        have k6 : V6.heap[w6.heap.size]? = some (.cells #[.int .i64 R.c, .int .i64 R.s, .int .i64 R.mi, .int .i64 R.ma, .int .i64 R.t, .int .i64 R.l] 55) := by rw [hV6]; exact heap_new _ _ rfl
        have HB6 := Lib.hid (Below.trans' HB5.out (Below.trans' hb6 hb6' hb6.size) HB5.out.size)
        have HX6 := Lib.hid ((HX5.out.later hb6).later hb6')
        have HY6 := Lib.hid ((HY5.out.later hb6).later hb6')
        have HK6 := Lib.hid k6
        rw [← hV6]
        obtain ⟨r6, hr6⟩ : ∃ q, w6.heap.size = q := ⟨_, rfl⟩
        rw [hr6] at HK6 ⊢
        clear hV6 hb6 hb6' k6 hr6 x0 x1 x2 x3 x4 x5 x6 x7
        obtain ⟨y0, y1, y2, y3, y4, y5, y6, y7, -⟩ := HY6.out.cells
        go_upto_region 22 with (go_at_call 24; (with_reducible refine (HTY.out _ HB6.out HY6.out).mono ?_); rintro e w7 ⟨hb7, rfl⟩)
        obtain ⟨V7, hV7⟩ : ∃ V, V = w7.alloc (.cells #[.int .i64 R.c, .int .i64 R.s, .int .i64 R.mi, .int .i64 R.ma, .int .i64 R.t, .int .i64 R.l] 55) := ⟨_, rfl⟩
        have hb7' : Below w7.heap.size w7 V7 := by rw [hV7]; exact belowAuto
        have k7 : V7.heap[w7.heap.size]? = some (.cells #[.int .i64 R.c, .int .i64 R.s, .int .i64 R.mi, .int .i64 R.ma, .int .i64 R.t, .int .i64 R.l] 55) := by rw [hV7]; exact heap_new _ _ rfl
        have hb77 := Below.trans' hb7 hb7' hb7.size
        have HB7 := Lib.hid (Below.trans' HB6.out hb77 HB6.out.size)
        have HX7 := Lib.hid (HX6.out.later hb77)
        have HY7 := Lib.hid (HY6.out.later hb77)
        have HK7 := Lib.hid (And.intro ((hb77.block r6 (Array.getElem?_eq_some_iff.1 HK6.out).1).trans HK6.out) k7)
        rw [← hV7]
        obtain ⟨r7, hr7⟩ : ∃ q, w7.heap.size = q := ⟨_, rfl⟩
        rw [hr7] at HK7 ⊢
        clear hV7 hb7 hb7' k7 hr7 hb77 y0 y1 y2 y3 y4 y5 y6 y7
        obtain ⟨x0, x1, x2, x3, x4, x5, x6, x7, -⟩ := HX7.out.cells
        go_upto_region 23 with (go_at_call 21; (with_reducible refine (HRX.out _ HB7.out HX7.out).mono ?_); rintro e w8 ⟨hb8, rv, rfl, hrow⟩; have HB8 := Lib.hid (Below.trans' HB7.out hb8 HB7.out.size); have HY8 := Lib.hid (HY7.out.later hb8); have HK8 := Lib.hid (And.intro ((hb8.block r6 (Array.getElem?_eq_some_iff.1 HK7.out.1).1).trans HK7.out.1) ((hb8.block r7 (Array.getElem?_eq_some_iff.1 HK7.out.2).1).trans HK7.out.2)); have HRO := Lib.hid hrow; obtain ⟨ra, rc, rfl⟩ := hrow.isSlice; clear hb8 hrow)
        clear x0 x1 x2 x3 x4 x5 x6 x7
        obtain ⟨y0, y1, y2, y3, y4, y5, y6, y7, -⟩ := HY8.out.cells
        go_upto_region 24 with (go_at_call 21; (with_reducible refine (HRY.out _ HB8.out HY8.out).mono ?_); rintro e w9 ⟨hb9, rv2, rfl, hrow⟩; have HB9 := Lib.hid (Below.trans' HB8.out hb9 HB8.out.size); have HK9 := Lib.hid (And.intro ((hb9.block r6 (Array.getElem?_eq_some_iff.1 HK8.out.1).1).trans HK8.out.1) ((hb9.block r7 (Array.getElem?_eq_some_iff.1 HK8.out.2).1).trans HK8.out.2)); have HRO9 := Lib.hid (And.intro (HRO.out.below hb9 (Nat.le_refl _)) hrow); obtain ⟨ra2, rc2, rfl⟩ := hrow.isSlice; clear hb9 hrow)
        obtain ⟨q0, q1, q2, q3, q4, q5⟩ := roll_cells HK9.out.1
        obtain ⟨s0, s1, s2, s3, s4, s5⟩ := roll_cells HK9.out.2
        have hlrw : RW.length ≤ 1000000 := by have := HRL.out; omega
        have heqr := equalRows_any (HRO9.out.1.at hlrw) (HRO9.out.2.at hlrw)
        rw [show decide (RW = RW) = true by simp] at heqr
        have HEQ := Lib.hid heqr
        clear heqr hlrw
        clear y0 y1 y2 y3 y4 y5 y6 y7
        go_wp2_with (go_at_call 27; (with_reducible refine HEQ.out.mono ?_); rintro e w10 ⟨rfl, hb10⟩)
        go_ret
        exact ⟨ret_bool (by simp), Below.trans' HB9.out hb10 HB9.out.size⟩
      · have HTX := Lib.hid fun W (hb : Below w.heap.size w W) (hx : MbAt xb yb xa xc xg0 xl0 xp0 xg1 xl1 xp1 xg2 xl2 xp2 bx W) => (by have := total_any (s := oneB) (a := a) (z := a + m) hx.at HNX.out.1 (HSZ.out.below hb); rw [t1, t2] at this; exact this : Calls Tryd.prog 24 #[.agg (baCells xa bx.names.length xc xg0 xl0 xp0 xg1 xl1 xp1 xg2 xl2 xp2 bx), .string ⟨#[111, 110, 101]⟩, .int .i64 a, .int .i64 (a + m)] W fun e w' => Below W.heap.size W w' ∧ e = .returned (.tuple #[.agg #[.int .i64 R.c, .int .i64 R.s, .int .i64 R.mi, .int .i64 R.ma, .int .i64 R.t, .int .i64 R.l], .int .i64 0]))
        have HTY := Lib.hid fun W (hb : Below w.heap.size w W) (hy : MbAt yb xb ya yc yg0 yl0 yp0 yg1 yl1 yp1 yg2 yl2 yp2 bY W) => (by have := total_any (s := oneB) (a := a) (z := a + m) hy.at HNX.out.2 (HSZ.out.below hb); rw [t3, t4] at this; exact this : Calls Tryd.prog 24 #[.agg (baCells ya bY.names.length yc yg0 yl0 yp0 yg1 yl1 yp1 yg2 yl2 yp2 bY), .string ⟨#[111, 110, 101]⟩, .int .i64 a, .int .i64 (a + m)] W fun e w' => Below W.heap.size W w' ∧ e = .returned (.tuple #[.agg #[.int .i64 R.c, .int .i64 R.s, .int .i64 R.mi, .int .i64 R.ma, .int .i64 R.t, .int .i64 R.l], .int .i64 0]))
        have HRX := Lib.hid fun W (hb : Below w.heap.size w W) (hx : MbAt xb yb xa xc xg0 xl0 xp0 xg1 xl1 xp1 xg2 xl2 xp2 bx W) => (by have := rows_any (s := oneB) (n := 60) (a := 0) (z := 1048575) hx.at HNX.out.1 (HSZ.out.below hb); rw [r1, r2] at this; exact this : Calls Tryd.prog 21 #[.agg (baCells xa bx.names.length xc xg0 xl0 xp0 xg1 xl1 xp1 xg2 xl2 xp2 bx), .string ⟨#[111, 110, 101]⟩, .int .i64 60, .int .i64 0, .int .i64 1048575] W (RowsPost W.heap.size W RW 0))
        have HRY := Lib.hid fun W (hb : Below w.heap.size w W) (hy : MbAt yb xb ya yc yg0 yl0 yp0 yg1 yl1 yp1 yg2 yl2 yp2 bY W) => (by have := rows_any (s := oneB) (n := 60) (a := 0) (z := 1048575) hy.at HNX.out.2 (HSZ.out.below hb); rw [r3, r4] at this; exact this : Calls Tryd.prog 21 #[.agg (baCells ya bY.names.length yc yg0 yl0 yp0 yg1 yl1 yp1 yg2 yl2 yp2 bY), .string ⟨#[111, 110, 101]⟩, .int .i64 60, .int .i64 0, .int .i64 1048575] W (RowsPost W.heap.size W RW 0))
        have HRL := Lib.hid hrl
        have hne : ((pts.length : Int) == 0) = false := by
          have : pts.length ≠ 0 := fun h => he (List.eq_nil_of_length_eq_zero h)
          simpa using this
        clear he
        clear t1 t2 t3 t4 r1 r2 r3 r4 hrl HX HY
        go_upto_region 19 with (go_at_call 20; (with_reducible refine (HPA.out _).mono ?_); rintro e w4 ⟨rfl, hb4⟩)
        have HB4 := Lib.hid (Below.trans' HBW.out hb4 HBW.out.size)
        have HX4 := Lib.hid (HXE.out.later hb4)
        have HY4 := Lib.hid (HYE.out.later hb4)
        clear hb4
        go_upto_region 20 with (go_at_call 20; (with_reducible refine (HPM.out _).mono ?_); rintro e w5 ⟨rfl, hb5⟩)
        have HB5 := Lib.hid (Below.trans' HB4.out hb5 HB4.out.size)
        have HX5 := Lib.hid (HX4.out.later hb5)
        have HY5 := Lib.hid (HY4.out.later hb5)
        obtain ⟨x0, x1, x2, x3, x4, x5, x6, x7, -⟩ := HX5.out.cells
        clear hb5
        go_upto_region 21 with (go_at_call 24; (with_reducible refine (HTX.out _ HB5.out HX5.out).mono ?_); rintro e w6 ⟨hb6, rfl⟩)
        obtain ⟨V6, hV6⟩ : ∃ V, V = w6.alloc (.cells #[.int .i64 R.c, .int .i64 R.s, .int .i64 R.mi, .int .i64 R.ma, .int .i64 R.t, .int .i64 R.l] 55) := ⟨_, rfl⟩
        have hb6' : Below w6.heap.size w6 V6 := by rw [hV6]; exact belowAuto
        have k6 : V6.heap[w6.heap.size]? = some (.cells #[.int .i64 R.c, .int .i64 R.s, .int .i64 R.mi, .int .i64 R.ma, .int .i64 R.t, .int .i64 R.l] 55) := by rw [hV6]; exact heap_new _ _ rfl
        have HB6 := Lib.hid (Below.trans' HB5.out (Below.trans' hb6 hb6' hb6.size) HB5.out.size)
        have HX6 := Lib.hid ((HX5.out.later hb6).later hb6')
        have HY6 := Lib.hid ((HY5.out.later hb6).later hb6')
        have HK6 := Lib.hid k6
        rw [← hV6]
        obtain ⟨r6, hr6⟩ : ∃ q, w6.heap.size = q := ⟨_, rfl⟩
        rw [hr6] at HK6 ⊢
        clear hV6 hb6 hb6' k6 hr6 x0 x1 x2 x3 x4 x5 x6 x7
        obtain ⟨y0, y1, y2, y3, y4, y5, y6, y7, -⟩ := HY6.out.cells
        go_upto_region 22 with (go_at_call 24; (with_reducible refine (HTY.out _ HB6.out HY6.out).mono ?_); rintro e w7 ⟨hb7, rfl⟩)
        obtain ⟨V7, hV7⟩ : ∃ V, V = w7.alloc (.cells #[.int .i64 R.c, .int .i64 R.s, .int .i64 R.mi, .int .i64 R.ma, .int .i64 R.t, .int .i64 R.l] 55) := ⟨_, rfl⟩
        have hb7' : Below w7.heap.size w7 V7 := by rw [hV7]; exact belowAuto
        have k7 : V7.heap[w7.heap.size]? = some (.cells #[.int .i64 R.c, .int .i64 R.s, .int .i64 R.mi, .int .i64 R.ma, .int .i64 R.t, .int .i64 R.l] 55) := by rw [hV7]; exact heap_new _ _ rfl
        have hb77 := Below.trans' hb7 hb7' hb7.size
        have HB7 := Lib.hid (Below.trans' HB6.out hb77 HB6.out.size)
        have HX7 := Lib.hid (HX6.out.later hb77)
        have HY7 := Lib.hid (HY6.out.later hb77)
        have HK7 := Lib.hid (And.intro ((hb77.block r6 (Array.getElem?_eq_some_iff.1 HK6.out).1).trans HK6.out) k7)
        rw [← hV7]
        obtain ⟨r7, hr7⟩ : ∃ q, w7.heap.size = q := ⟨_, rfl⟩
        rw [hr7] at HK7 ⊢
        clear hV7 hb7 hb7' k7 hr7 hb77 y0 y1 y2 y3 y4 y5 y6 y7
        obtain ⟨x0, x1, x2, x3, x4, x5, x6, x7, -⟩ := HX7.out.cells
        go_upto_region 23 with (go_at_call 21; (with_reducible refine (HRX.out _ HB7.out HX7.out).mono ?_); rintro e w8 ⟨hb8, rv, rfl, hrow⟩; have HB8 := Lib.hid (Below.trans' HB7.out hb8 HB7.out.size); have HY8 := Lib.hid (HY7.out.later hb8); have HK8 := Lib.hid (And.intro ((hb8.block r6 (Array.getElem?_eq_some_iff.1 HK7.out.1).1).trans HK7.out.1) ((hb8.block r7 (Array.getElem?_eq_some_iff.1 HK7.out.2).1).trans HK7.out.2)); have HRO := Lib.hid hrow; obtain ⟨ra, rc, rfl⟩ := hrow.isSlice; clear hb8 hrow)
        clear x0 x1 x2 x3 x4 x5 x6 x7
        obtain ⟨y0, y1, y2, y3, y4, y5, y6, y7, -⟩ := HY8.out.cells
        go_upto_region 24 with (go_at_call 21; (with_reducible refine (HRY.out _ HB8.out HY8.out).mono ?_); rintro e w9 ⟨hb9, rv2, rfl, hrow⟩; have HB9 := Lib.hid (Below.trans' HB8.out hb9 HB8.out.size); have HK9 := Lib.hid (And.intro ((hb9.block r6 (Array.getElem?_eq_some_iff.1 HK8.out.1).1).trans HK8.out.1) ((hb9.block r7 (Array.getElem?_eq_some_iff.1 HK8.out.2).1).trans HK8.out.2)); have HRO9 := Lib.hid (And.intro (HRO.out.below hb9 (Nat.le_refl _)) hrow); obtain ⟨ra2, rc2, rfl⟩ := hrow.isSlice; clear hb9 hrow)
        obtain ⟨q0, q1, q2, q3, q4, q5⟩ := roll_cells HK9.out.1
        obtain ⟨s0, s1, s2, s3, s4, s5⟩ := roll_cells HK9.out.2
        have hlrw : RW.length ≤ 1000000 := by have := HRL.out; omega
        have heqr := equalRows_any (HRO9.out.1.at hlrw) (HRO9.out.2.at hlrw)
        rw [show decide (RW = RW) = true by simp] at heqr
        have HEQ := Lib.hid heqr
        clear heqr hlrw
        clear y0 y1 y2 y3 y4 y5 y6 y7
        go_wp2_with (go_at_call 27; (with_reducible refine HEQ.out.mono ?_); rintro e w10 ⟨rfl, hb10⟩)
        go_ret
        exact ⟨ret_bool (by simp), Below.trans' HB9.out hb10 HB9.out.size⟩
end Go.Proofs.YtalnnghnipoogaaDoor
