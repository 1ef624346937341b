/- The walk of the document's Book: what is known of points. -/
import Derived.Test.YtijcaejdgicbmaaDoorRolled
import Derived.Test.YtijcaejdgicbmaaDoorAllOf
import Derived.Test.YtijcaejdgicbmaaDoorBaseC
import Derived.Test.YtijcaejdgicbmaaDoorLawCopies
import Derived.BigQuiet
import Derived.Deep.QuietTactic
namespace Go.Proofs.YtijcaejdgicbmaaDoor
open Go.RowKit

theorem AllPost.allT {B : Nat} {w : World} {t : Tr} {e : Ending} {w' : World} (h : AllPost B w (treeFault t) (allR t 0 1099511627776) e w') :
    Below B w w' ∧ (match allT t with | none => ∃ E : Int, (E != 0) = true ∧ e = .returned (.tuple #[.slice none 0 0, .int .i64 E]) | some l => ∃ v, e = .returned (.tuple #[v, .int .i64 0]) ∧ OwnEnts B w' v l) := by
  obtain ⟨hb, h1, h2⟩ := h
  refine ⟨hb, ?_⟩
  unfold Go.Proofs.YtijcaejdgicbmaaDoor.allT
  by_cases hf : treeFault t = 0
  · have h3 := h2 hf
    rw [if_pos hf]
    cases hr : allR t 0 1099511627776 with
    | none => rw [hr] at h3; exact ⟨1, rfl, h3⟩
    | some l => rw [hr] at h3; exact h3
  · rw [if_neg hf]; exact ⟨_, by simp [hf], h1 hf⟩
theorem book_ok {b : Ba} {l : List Ent} (h1 : allT b.t0 = some l) (h2 : l.all (bookOk b) = true) : bookR b = some l := by
  unfold bookR; rw [h1]; simp only; rw [if_pos h2]
theorem book_bad {b : Ba} {l : List Ent} {k : Nat} (h1 : allT b.t0 = some l) (hk : k < l.length) (h2 : bookOk b l[k] = false) : bookR b = none := by
  unfold bookR; rw [h1]; simp only; rw [if_neg]
  intro h; have := List.all_eq_true.1 h l[k] (List.getElem_mem hk); rw [h2] at this; cases this
theorem book_none {b : Ba} (h1 : allT b.t0 = none) : bookR b = none := by unfold bookR; rw [h1]
/-- A base's block. -/
abbrev baCells (sa : Option Addr) (sn sc : Nat) (g0 : Option Addr) (l0 p0 : Nat) (g1 : Option Addr) (l1 p1 : Nat) (g2 : Option Addr) (l2 p2 : Nat) (b : Ba) : Array Value :=
  #[.slice sa sn sc, .slice g0 l0 p0, .int .i64 b.t0.root, .slice g1 l1 p1, .int .i64 b.t1.root, .slice g2 l2 p2, .int .i64 b.t2.root, .int .i64 b.floor]
theorem BaseAt.open {w : World} {v : Value} {b : Ba} (h : BaseAt w v b) : ∃ sa sc g0 l0 p0 g1 l1 p1 g2 l2 p2, v = .agg (baCells sa b.names.length sc g0 l0 p0 g1 l1 p1 g2 l2 p2 b) ∧ b.names.length ≤ 8796093022208 ∧ StrsAt w (.slice sa b.names.length sc) b.names ∧
    (∀ w', Below w.heap.size w w' → TreeAt w' (.agg #[.slice g0 l0 p0, .int .i64 b.t0.root]) b.t0) ∧ (∀ w', Below w.heap.size w w' → TreeAt w' (.agg #[.slice g1 l1 p1, .int .i64 b.t1.root]) b.t1) ∧ (∀ w', Below w.heap.size w w' → TreeAt w' (.agg #[.slice g2 l2 p2, .int .i64 b.t2.root]) b.t2) := by
  obtain ⟨nv, a0, a1, a2, rfl, s, n0, n1, n2⟩ := h
  obtain ⟨sa, sc, rfl⟩ := s.isSlice
  obtain ⟨g0, l0, p0, rfl⟩ := nodes_slice n0
  obtain ⟨g1, l1, p1, rfl⟩ := nodes_slice n1
  obtain ⟨g2, l2, p2, rfl⟩ := nodes_slice n2
  obtain ⟨_, _, _, _, _, h6, _⟩ := id s
  exact ⟨sa, sc, g0, l0, p0, g1, l1, p1, g2, l2, p2, rfl, by omega, s, fun w' hb => ⟨_, rfl, n0.below hb (Nat.le_refl _)⟩, fun w' hb => ⟨_, rfl, n1.below hb (Nat.le_refl _)⟩, fun w' hb => ⟨_, rfl, n2.below hb (Nat.le_refl _)⟩⟩

set_option maxRecDepth 100000 in
set_option maxHeartbeats 1000000 in
theorem book_any {v : Value} {b : Ba} {w : World} (h : BaseAt w v b) :
    Calls Tryd.prog 35 #[v] w (RolPost w.heap.size w (bookR b)) := by
  obtain ⟨sa, sc, g0, l0, p0, g1, l1, p1, g2, l2, p2, rfl, hn, _, T0, _, _⟩ := h.open
  obtain ⟨W0, hW0⟩ : ∃ W0, W0 = w.alloc (.cells (baCells sa b.names.length sc g0 l0 p0 g1 l1 p1 g2 l2 p2 b) 28) := ⟨_, rfl⟩
  have hb0 : Below w.heap.size w W0 := by rw [hW0]; exact (by repeat (first | with_reducible exact Below.refl _ _ | with_reducible assumption | with_reducible refine below_dn ?_ _ | with_reducible refine Below.drew ?_ | with_reducible refine Below.alloc ?_ (by first | omega | (simp; done) | (simp; omega) | (simp [drew_size]; done) | (simp [drew_size]; omega)) _ | with_reducible refine Below.setCell ?_ (by first | omega | (simp; done) | (simp; omega) | (simp [drew_size]; done) | (simp [drew_size]; omega)) _))
  have hz0 : W0.heap.size = w.heap.size + 1 := by rw [hW0]; simp
  have k0 : W0.heap[w.heap.size]? = some (.cells (baCells sa b.names.length sc g0 l0 p0 g1 l1 p1 g2 l2 p2 b) 28) := by rw [hW0]; exact heap_new _ _ rfl
  have HX := Lib.hid fun w' (hb : Below W0.heap.size W0 w') => (by
    have b0 : w'.heap[w.heap.size]? = _ := (hb.block _ (by omega)).trans k0
    simp [World.cell?, b0] :
    w'.cell? ⟨w.heap.size, 0, none⟩ = some (.slice sa b.names.length sc) ∧ w'.cell? ⟨w.heap.size, 7, none⟩ = some (.int .i64 b.floor))
  have HB := Lib.hid fun w' (hb : Below W0.heap.size W0 w') => (Below.trans' hb0 hb hb0.size : Below w.heap.size w w')
  have HA := Lib.hid ((allOf_any (lo := 0) (hi := 1099511627776) (T0 W0 hb0)).mono fun e w' hp => AllPost.allT hp)
  obtain ⟨c1, c2⟩ : W0.cell? ⟨w.heap.size, 1, none⟩ = some (.slice g0 l0 p0) ∧ W0.cell? ⟨w.heap.size, 2, none⟩ = some (.int .i64 b.t0.root) := by simp [World.cell?, k0]
  clear T0
  go_enter Tryd.func35, Tryd.ntmps35
  go_upto_region 1 with (fail)
  rw [← hW0]
  clear hW0 k0
  cases hT : allT b.t0 with
  | none =>
    have HN := Lib.hid (book_none hT)
    rw [hT] at HA
    clear hT
    go_wp2_with ((go_at_call 38; (with_reducible refine HA.out.mono ?_); rintro e w1 ⟨hb1, E, hE, rfl⟩; have hbw := HB.out _ hb1))
    go_ret2
    rw [HN.out]
    exact ⟨hbw, rfl⟩
  | some l =>
    have HT := Lib.hid hT
    have HG := Lib.hid (allT_good hT)
    have hlen : l.length ≤ 50000 := (allT_good hT).2.2.2
    rw [hT] at HA
    clear hT
    go_upto_region 4 with ((go_at_call 38; (with_reducible refine HA.out.mono ?_); rintro e w1 ⟨hb1, v1, rfl, ho1⟩; obtain ⟨s1, d1, rfl⟩ := ho1.isSlice))
    have HL := Lib.hid (ho1.at (by omega))
    have HO := Lib.hid ho1
    have hz1 := hb1.size
    clear c1 c2 ho1
    go_wp2_with fail
    go_loopg [6] l.length (fun g i wr => ∃ k : Nat, k ≤ l.length ∧ g = l.length - k ∧ i = .int .i64 k ∧ Hid ((l.take k).all (bookOk b) = true) ∧ Below w1.heap.size w1 wr)
    case atStart => exact ⟨0, Nat.zero_le _, rfl, rfl, Lib.hid rfl, Below.refl _ _⟩
    case round =>
      obtain ⟨k, hk, rfl, rfl, HR, hb⟩ := hrel
      have hsz := hb.size
      have hbB : Below W0.heap.size W0 wr := Below.trans' hb1 hb hz1
      obtain ⟨x0, x7⟩ := HX.out _ hbB
      by_cases hlt : k < l.length
      · obtain ⟨_, _, hv, -, -, -, -, h5⟩ := HL.out
        injection hv with hv1 _ hv3
        subst hv3
        obtain ⟨eb, eoff, hla, heb, hec⟩ := h5 (by omega)
        subst hla
        subst hv1
        obtain ⟨y0, y1, y2, y3, y4, y5, y6⟩ := ent_cells hb heb hec hlt
        obtain ⟨y, hy⟩ : ∃ y, l[k] = y := ⟨_, rfl⟩
        rw [hy] at y0 y1 y2 y3 y4 y5 y6
        have hyl : y ∈ l := by rw [← hy]; exact List.getElem_mem hlt
        obtain ⟨hk0, hk1⟩ := HG.out.2.2.1 y hyl
        have HBAD := Lib.hid fun (h : bookOk b y = false) => book_bad HT.out hlt (by rw [hy]; exact h)
        have HGOOD := Lib.hid fun (h : bookOk b y = true) => (by rw [List.take_succ_eq_append_getElem hlt, List.all_append, HR.out, hy]; simp [h] : (l.take (k + 1)).all (bookOk b) = true)
        obtain ⟨M, hM⟩ : ∃ M, y.key % 1048576 = M := ⟨_, rfl⟩
        obtain ⟨Q, hQ⟩ : ∃ Q, y.key / 1048576 = Q := ⟨_, rfl⟩
        have hM0 : 0 ≤ M ∧ M < 1048576 := by omega
        have hQ0 : 0 ≤ Q ∧ Q < 1048576 := by omega
        have m1 : y.key.tmod 1048576 = M := by rw [Int.tmod_eq_emod_of_nonneg hk0]; exact hM
        have m2 : y.key.tdiv 1048576 = Q := by rw [Int.tdiv_eq_ediv_of_nonneg hk0]; exact hQ
        have m3 : IntKind.i64.wrap M = M := IntWalk.i64_in _ (by omega)
        have m4 : IntKind.i64.wrap Q = Q := IntWalk.i64_in _ (by omega)
        have HOK := Lib.hid (show bookOk b y = (decide (Q < b.names.length) && decide (b.floor ≤ M) && decide (y.is.t = M)) by simp [bookOk, hM, hQ])
        have hix := fun w' => idx_ents (ab := eb) (aoff := eoff) (n := l.length) (cap := d1) (show (k : Int) = ((k : Nat) : Int) by rfl) hlt w'
        have hwz : eb < wr.heap.size := by omega
        have hbN : Below w.heap.size w wr := HB.out _ hbB
        clear hec h5 hy hyl hM hQ hM0 hQ0 hbB
        go_upto_region 8 with (fail)
        by_cases i1 : Q < b.names.length
        · have e1 : decide ((b.names.length : Int) ≤ Q) = false := by simp; omega
          by_cases i2 : b.floor ≤ M
          · have e2 : decide (M < b.floor) = false := by simp; omega
            by_cases i3 : y.is.t = M
            · have e3 : (y.is.t != M) = false := by simp [i3]
              have HGD := Lib.hid (HGOOD.out (by rw [HOK.out]; simp [i1, i2, i3]))
              clear i1 i2 i3 HGOOD HBAD HOK
              go_quiet (fail)
              go_wp2
              go_roundg (l.length - (k + 1))
              case measure => omega
              case rel => exact ⟨k + 1, by omega, rfl, by go_num, HGD, (by repeat (first | with_reducible exact Below.refl _ _ | with_reducible assumption | with_reducible refine below_dn ?_ _ | with_reducible refine Below.drew ?_ | with_reducible refine Below.alloc ?_ (by first | omega | (simp; done) | (simp; omega) | (simp [drew_size]; done) | (simp [drew_size]; omega)) _ | with_reducible refine Below.setCell ?_ (by first | omega | (simp; done) | (simp; omega) | (simp [drew_size]; done) | (simp [drew_size]; omega)) _))⟩
            · have e3 : (y.is.t != M) = true := by simp [i3]
              have HBD := Lib.hid (HBAD.out (by rw [HOK.out]; simp [i3]))
              clear i1 i2 i3 HGOOD HBAD HOK
              go_quiet (fail)
              go_wp2
              go_ret2
              rw [HBD.out]
              exact ⟨(by repeat (first | with_reducible exact Below.refl _ _ | with_reducible assumption | with_reducible refine below_dn ?_ _ | with_reducible refine Below.drew ?_ | with_reducible refine Below.alloc ?_ (by first | omega | (simp; done) | (simp; omega) | (simp [drew_size]; done) | (simp [drew_size]; omega)) _ | with_reducible refine Below.setCell ?_ (by first | omega | (simp; done) | (simp; omega) | (simp [drew_size]; done) | (simp [drew_size]; omega)) _)), rfl⟩
          · have e2 : decide (M < b.floor) = true := by simp; omega
            have HBD := Lib.hid (HBAD.out (by rw [HOK.out]; simp [i2]))
            clear i1 i2 HGOOD HBAD HOK
            go_quiet (fail)
            go_wp2
            go_ret2
            rw [HBD.out]
            exact ⟨(by repeat (first | with_reducible exact Below.refl _ _ | with_reducible assumption | with_reducible refine below_dn ?_ _ | with_reducible refine Below.drew ?_ | with_reducible refine Below.alloc ?_ (by first | omega | (simp; done) | (simp; omega) | (simp [drew_size]; done) | (simp [drew_size]; omega)) _ | with_reducible refine Below.setCell ?_ (by first | omega | (simp; done) | (simp; omega) | (simp [drew_size]; done) | (simp [drew_size]; omega)) _)), rfl⟩
        · have e1 : decide ((b.names.length : Int) ≤ Q) = true := by simp; omega
          have HBD := Lib.hid (HBAD.out (by rw [HOK.out]; simp [i1]))
          clear i1 HGOOD HBAD HOK
          go_quiet (fail)
          go_wp2
          go_ret2
          rw [HBD.out]
          exact ⟨(by repeat (first | with_reducible exact Below.refl _ _ | with_reducible assumption | with_reducible refine below_dn ?_ _ | with_reducible refine Below.drew ?_ | with_reducible refine Below.alloc ?_ (by first | omega | (simp; done) | (simp; omega) | (simp [drew_size]; done) | (simp [drew_size]; omega)) _ | with_reducible refine Below.setCell ?_ (by first | omega | (simp; done) | (simp; omega) | (simp [drew_size]; done) | (simp [drew_size]; omega)) _)), rfl⟩
      · have HN := Lib.hid (book_ok HT.out (by have := HR.out; rw [List.take_of_length_le (by omega)] at this; exact this))
        have hbN : Below w.heap.size w wr := HB.out _ hbB
        have ho := (HO.out.below hb (Nat.le_refl _)).mono (show w.heap.size ≤ W0.heap.size by omega)
        clear hbB
        go_wp2
        go_ret2
        rw [HN.out]
        exact ⟨hbN, _, rfl, ho⟩
end Go.Proofs.YtijcaejdgicbmaaDoor
