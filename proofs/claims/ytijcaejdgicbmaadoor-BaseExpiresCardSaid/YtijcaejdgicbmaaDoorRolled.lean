/- The walk of the document's Rolled: entries of points as those of buckets. -/
import Derived.Test.YtijcaejdgicbmaaDoorPA
import Derived.Test.YtijcaejdgicbmaaDoorWith
import Derived.StillTailTactics
import Derived.Deep.CutBlock
namespace Go.Proofs.YtijcaejdgicbmaaDoor
open Go.RowKit

def RolPost (B : Nat) (w : World) (r : Option (List Ent)) (e : Ending) (w' : World) : Prop :=
  Below B w w' ∧ (match r with | none => e = .returned (.tuple #[.slice none 0 0, .bool false]) | some l => ∃ v', e = .returned (.tuple #[v', .bool true]) ∧ OwnEnts B w' v' l)
theorem rolled_step {l : List Ent} {size : Int} {k : Nat} {es : List Ent} (hk : k < l.length) (h : bagC ((l.take k).map (bucket size)) = some es) : bagC ((l.take (k + 1)).map (bucket size)) = insC es (bucket size l[k]) := by
  rw [List.take_succ_eq_append_getElem hk, List.map_append, List.map_cons, List.map_nil, bagC_snoc, h]; rfl
theorem rolled_stop {l : List Ent} {size : Int} {k : Nat} (h : bagC ((l.take k).map (bucket size)) = none) : rolledR l size = none := by
  unfold rolledR
  conv => lhs; rw [← List.take_append_drop k l, List.map_append]
  exact bagC_none h

set_option maxRecDepth 100000 in
set_option maxHeartbeats 1000000 in
theorem rolled_any {v : Value} {l : List Ent} {size : Int} {w : World} (h : EntsAt w v l) (hg : PGood l) (hs : 0 < size) (hs2 : size ≤ 3600) :
    Calls Tryd.prog 36 #[v, .int .i64 size] w (RolPost w.heap.size w (rolledR l size)) := by
  obtain ⟨ao, cap, rfl⟩ := h.isSlice
  have HE := Lib.hid h
  have HG := Lib.hid hg
  have hlen : l.length ≤ 50000 := hg.2.2
  clear h hg
  go_enter Tryd.func36, Tryd.ntmps36
  go_wp2_with fail
  go_loopg [6, 7] l.length (fun g out i wr => ∃ (k : Nat) (es : List Ent), k ≤ l.length ∧ g = l.length - k ∧ i = .int .i64 k ∧ OwnEnts w.heap.size wr out es ∧ Hid (bagC ((l.take k).map (bucket size)) = some es) ∧ Below w.heap.size w wr)
  case atStart => exact ⟨0, [], Nat.zero_le _, rfl, rfl, OwnEnts.nil _ _, Lib.hid rfl, Below.refl _ _⟩
  case round =>
    obtain ⟨k, es, hk, rfl, rfl, hown, HR, hb⟩ := hrel
    obtain ⟨so, sc, rfl⟩ := hown.isSlice
    have hsz := hb.size
    by_cases hlt : k < l.length
    · obtain ⟨_, _, hv, -, -, -, -, h5⟩ := HE.out
      injection hv with hv1 _ hv3
      subst hv1 hv3
      obtain ⟨eb, eoff, hla, heb, hec⟩ := h5 (by omega)
      subst hla
      obtain ⟨y0, y1, y2, y3, y4, y5, y6⟩ := ent_cells hb heb hec hlt
      obtain ⟨y, hy⟩ : ∃ y, l[k] = y := ⟨_, rfl⟩
      rw [hy] at y0 y1 y2 y3 y4 y5 y6
      have hyl : y ∈ l := by rw [← hy]; exact List.getElem_mem hlt
      have HSTEP := Lib.hid (rolled_step (size := size) hlt HR.out)
      rw [hy] at HSTEP
      obtain ⟨hk0, hk1⟩ := HG.out.2.1 y hyl
      have hbr := bucket_range hs (HG.out.2.1 y hyl)
      obtain ⟨M, hM⟩ : ∃ M, y.key % 1048576 = M := ⟨_, rfl⟩
      obtain ⟨R, hR⟩ : ∃ R, M % size = R := ⟨_, rfl⟩
      have hM0 : 0 ≤ M ∧ M < 1048576 := by omega
      have hR0 : 0 ≤ R ∧ R < size := by rw [← hR]; exact ⟨Int.emod_nonneg _ (by omega), Int.emod_lt_of_pos _ hs⟩
      have m1 : y.key.tmod 1048576 = M := by rw [Int.tmod_eq_emod_of_nonneg hk0]; exact hM
      have m2 : M.tmod size = R := by rw [Int.tmod_eq_emod_of_nonneg hM0.1]; exact hR
      have m3 : IntKind.i64.wrap M = M := IntWalk.i64_in _ (by omega)
      have m4 : IntKind.i64.wrap R = R := IntWalk.i64_in _ (by omega)
      have hbk : bucket size y = ⟨y.key - R, y.is⟩ := by simp [bucket, hM, hR]
      rw [hbk] at HSTEP hbr
      have m5 : IntKind.i64.wrap (y.key - R) = y.key - R := IntWalk.i64_in _ (by have := hbr.1; have := hbr.2; simp only at *; omega)
      obtain ⟨P, hP⟩ : ∃ P, y.key - R = P := ⟨_, rfl⟩
      rw [hP] at m5 HSTEP
      have HBL := Lib.hid (bucket_good hs HG.out)
      obtain ⟨g1, g2, g3, g4⟩ := pgood_some (P := (l.take k).map (bucket size)) (by have := HBL.out; rw [← List.take_append_drop k l, List.map_append] at this; exact this.left) HR.out
      have hix := fun w' => idx_ents (ab := eb) (aoff := eoff) (n := l.length) (cap := cap) (show (k : Int) = ((k : Nat) : Int) by rfl) hlt w'
      have HW := Lib.hid fun w' (hb' : Below wr.heap.size wr w') => withEntry_any (v := .slice so es.length sc) (xs := es) (x := ⟨P, y.is⟩) (w := w') ((hown.below hb' (Nat.le_refl _)).at (by omega)) g2 (HG.out.1 y hyl).2 (by omega)
      have hwz : eb < wr.heap.size := by omega
      have hs0 : (size == 0) = false := by simp; omega
      clear hec h5 hy hyl hbr hM hR hM0 hR0 hbk g1 g2 g3 g4
      go_upto_region 6 with (fail)
      go_cut [9] (fun p wx => p = .pointer (some ⟨wr.heap.size, 0, none⟩) ∧ wx.heap[wr.heap.size]? = some (.cells #[.int .i64 P, .int .i64 y.is.c, .int .i64 y.is.s, .int .i64 y.is.mi, .int .i64 y.is.ma, .int .i64 y.is.t, .int .i64 y.is.l] 70) ∧ Below wr.heap.size wr wx)
      case first =>
        go_region
        all_goals
          go_wp2
          go_meet
          refine ⟨rfl, ?_, (by repeat (first | with_reducible exact Below.refl _ _ | with_reducible assumption | with_reducible refine below_dn ?_ _ | with_reducible refine Below.drew ?_ | with_reducible refine Below.alloc ?_ (by first | omega | (simp; done) | (simp; omega) | (simp [drew_size]; done) | (simp [drew_size]; omega)) _ | with_reducible refine Below.setCell ?_ (by first | omega | (simp; done) | (simp; omega) | (simp [drew_size]; done) | (simp [drew_size]; omega)) _))⟩
          with_reducible refine drew_block ?_
          with_reducible exact heap_new _ _ rfl
      case rest =>
        obtain ⟨rfl, k8, hbc⟩ := hcut
        obtain ⟨s0, s1, s2, s3, s4, s5, s6⟩ : wc.cell? ⟨wr.heap.size, 0, none⟩ = some (.int .i64 P) ∧ wc.cell? ⟨wr.heap.size, 1, none⟩ = some (.int .i64 y.is.c) ∧ wc.cell? ⟨wr.heap.size, 2, none⟩ = some (.int .i64 y.is.s) ∧ wc.cell? ⟨wr.heap.size, 3, none⟩ = some (.int .i64 y.is.mi) ∧ wc.cell? ⟨wr.heap.size, 4, none⟩ = some (.int .i64 y.is.ma) ∧ wc.cell? ⟨wr.heap.size, 5, none⟩ = some (.int .i64 y.is.t) ∧ wc.cell? ⟨wr.heap.size, 6, none⟩ = some (.int .i64 y.is.l) := by simp [World.cell?, k8]
        have HWE := Lib.hid (HW.out wc hbc)
        have hb2 := Below.trans' hb hbc hsz
        have hz2 := hbc.size
        clear y0 y1 y2 y3 y4 y5 y6 k8 hix
        cases hI : insC es ⟨P, y.is⟩ with
        | none =>
          have HN := Lib.hid (show rolledR l size = none from rolled_stop (k := k + 1) (by rw [HSTEP.out]; exact hI))
          rw [hI] at HWE
          clear hI
          go_wp2_with ((go_at_call 61; (with_reducible refine HWE.out.mono ?_); rintro e w6 ⟨hb6, rfl⟩; have hbw := Below.trans' hb2 hb6 (by omega)))
          go_ret2
          rw [HN.out]
          exact ⟨hbw, rfl⟩
        | some es' =>
          have HN := Lib.hid (show bagC ((l.take (k + 1)).map (bucket size)) = some es' by rw [HSTEP.out]; exact hI)
          rw [hI] at HWE
          clear hI
          go_wp2_with ((go_at_call 61; (with_reducible refine HWE.out.mono ?_); rintro e w6 ⟨hb6, v6, rfl, ho6⟩; have hbw := Below.trans' hb2 hb6 (by omega); obtain ⟨s6, c6, rfl⟩ := ho6.isSlice))
          go_roundg (l.length - (k + 1))
          case measure => omega
          case rel => exact ⟨k + 1, es', by omega, rfl, by go_num, ho6.mono (by omega), HN, hbw⟩
    · have HN := Lib.hid (show rolledR l size = some es by
        have := HR.out
        rw [List.take_of_length_le (by omega)] at this
        exact this)
      go_wp2
      go_ret2
      rw [HN.out]
      exact ⟨hb, _, rfl, hown⟩
end Go.Proofs.YtijcaejdgicbmaaDoor
