/- The walk of base.Check: it lets by what the document's BaseMay lets by. -/
import Derived.Test.YtggcinmjmkfboaaDoorPS
import Derived.Test.YtggcinmjmkfboaaDoorProRol
import Derived.Test.YtggcinmjmkfboaaDoorNM
import Derived.Test.YtggcinmjmkfboaaDoorGenLaid
namespace Go.Proofs.YtggcinmjmkfboaaDoor
open Go.RowKit

theorem may_bad {b : Ba} {l : List Ent} {k : Nat} (hl : bookR b = some l) (hk : k < 3) (h : treeOk l (b.tree k) (szOf k) = false) : baseMay b = false :=
  baseMay_no fun hB => by
    obtain ⟨l', e, ht⟩ := hB.trees
    rw [hl] at e
    simp only [Option.some.injEq] at e
    subst e
    rw [ht k hk] at h; cases h
noncomputable def checkE (b : Ba) : Int := if baseMay b = true then 0 else 7
theorem checkE_no {b : Ba} (h : baseMay b = false) : checkE b = 7 := by simp [checkE, h]
theorem checkE_yes {b : Ba} (h : baseMay b = true) : checkE b = 0 := by simp [checkE, h]

set_option maxRecDepth 100000 in
set_option maxHeartbeats 4000000 in
theorem baseCheck_any {v : Value} {b : Ba} {w : World} (h : BaseAt w v b) (hst : ∀ s ∈ b.names, s.size ≤ 140737488351232) (hsz : SizesAt w) :
    Calls Tryd.prog 33 #[v] w fun e w' => e = .returned (.int .i64 (checkE b)) ∧ Below w.heap.size w w' := by
  obtain ⟨sa, sc, g0, l0, p0, g1, l1, p1, g2, l2, p2, rfl, hn, hnames, T0, T1, T2⟩ := h.open
  obtain ⟨W0, hW0⟩ : ∃ W0, W0 = w.alloc (.cells (baCells sa b.names.length sc g0 l0 p0 g1 l1 p1 g2 l2 p2 b) 60) := ⟨_, rfl⟩
  have hb0 : Below w.heap.size w W0 := by rw [hW0]; exact (by repeat (first | with_reducible exact Below.refl _ _ | with_reducible assumption | with_reducible refine below_dn ?_ _ | with_reducible refine Below.drew ?_ | with_reducible refine Below.alloc ?_ (by first | omega | (simp; done) | (simp; omega) | (simp [drew_size]; done) | (simp [drew_size]; omega)) _ | with_reducible refine Below.setCell ?_ (by first | omega | (simp; done) | (simp; omega) | (simp [drew_size]; done) | (simp [drew_size]; omega)) _))
  have hz0 : W0.heap.size = w.heap.size + 1 := by rw [hW0]; simp
  have k0 : W0.heap[w.heap.size]? = some (.cells (baCells sa b.names.length sc g0 l0 p0 g1 l1 p1 g2 l2 p2 b) 60) := by rw [hW0]; exact heap_new _ _ rfl
  have HX := Lib.hid fun w' (hb : Below W0.heap.size W0 w') => (by
    have b0 : w'.heap[w.heap.size]? = _ := (hb.block _ (by omega)).trans k0
    simp [World.cell?, b0] :
    w'.cell? ⟨w.heap.size, 0, none⟩ = some (.slice sa b.names.length sc) ∧ w'.cell? ⟨w.heap.size, 1, none⟩ = some (.slice g0 l0 p0) ∧ w'.cell? ⟨w.heap.size, 2, none⟩ = some (.int .i64 b.t0.root) ∧ w'.cell? ⟨w.heap.size, 3, none⟩ = some (.slice g1 l1 p1) ∧ w'.cell? ⟨w.heap.size, 4, none⟩ = some (.int .i64 b.t1.root) ∧ w'.cell? ⟨w.heap.size, 5, none⟩ = some (.slice g2 l2 p2) ∧ w'.cell? ⟨w.heap.size, 6, none⟩ = some (.int .i64 b.t2.root) ∧ w'.cell? ⟨w.heap.size, 7, none⟩ = some (.int .i64 b.floor))
  have HB := Lib.hid fun w' (hb : Below W0.heap.size W0 w') => (Below.trans' hb0 hb hb0.size : Below w.heap.size w w')
  have HT0 := Lib.hid fun w' (hb : Below W0.heap.size W0 w') => (all_any (lo := 0) (hi := 1099511627776) (T0 w' (HB.out w' hb))).mono fun e w' hp => AllPost.allT hp
  have HT1 := Lib.hid fun w' (hb : Below W0.heap.size W0 w') => (all_any (lo := 0) (hi := 1099511627776) (T1 w' (HB.out w' hb))).mono fun e w' hp => AllPost.allT hp
  have HT2 := Lib.hid fun w' (hb : Below W0.heap.size W0 w') => (all_any (lo := 0) (hi := 1099511627776) (T2 w' (HB.out w' hb))).mono fun e w' hp => AllPost.allT hp
  have HBA := Lib.hid h
  have HSN := Lib.hid hnames
  have HST := Lib.hid hst
  have HSZ := Lib.hid fun w' (hb : Below W0.heap.size W0 w') => (hsz.below (HB.out w' hb) : SizesAt w')
  obtain ⟨x0, x1, x2, x3, x4, x5, x6, x7⟩ := HX.out W0 (Below.refl _ _)
  obtain ⟨-, s0, s1, s2⟩ := HSZ.out W0 (Below.refl _ _)
  clear T0 T1 T2 h hnames hst hsz
  go_enter Tryd.func33, Tryd.ntmps33
  go_upto_region 1 with (fail)
  rw [← hW0]
  clear hW0 k0
  by_cases i1 : b.names.length ≤ 16
  · have e1 : decide ((16 : Int) < (b.names.length : Int)) = false := by simp; omega
    have HN1 := Lib.hid i1
    by_cases i2 : 0 ≤ b.floor
    · have e2 : decide (b.floor < 0) = false := by simp; omega
      have HI2 := Lib.hid i2
      by_cases i2' : b.floor ≤ 1048575
      · have e2' : decide (1048575 < b.floor) = false := by simp; omega
        have HI2' := Lib.hid i2'
        obtain ⟨R, hR⟩ : ∃ R, b.floor % 3600 = R := ⟨_, rfl⟩
        have m1 : b.floor.tmod 3600 = R := by rw [Int.tmod_eq_emod_of_nonneg i2]; exact hR
        have m2 : IntKind.i64.wrap R = R := IntWalk.i64_in _ (by omega)
        have HR := Lib.hid hR
        by_cases i3 : R = 0
        · have e3 : (R != 0) = false := by simp [i3]
          have HI3 := Lib.hid (HR.out.trans i3)
          clear i1 i2 i2' i3 hR
          go_upto_region 4 with (fail)
          clear x0 x1 x2 x3 x4 x5 x6 x7 s0 s1 s2 m1 m2 e1 e2 e2' e3
          go_loopg [38] b.names.length (fun g i wr => ∃ k : Nat, k ≤ b.names.length ∧ g = b.names.length - k ∧ i = .int .i64 k ∧ Hid (∀ j, j < k → NameAt b j) ∧ Below W0.heap.size W0 wr)
          case atStart => exact ⟨0, Nat.zero_le _, rfl, rfl, Lib.hid (fun j hj => by omega), Below.refl _ _⟩
          case round =>
            obtain ⟨k, hk, rfl, rfl, HNM, hb⟩ := hrel
            obtain ⟨x0, x1, x2, x3, x4, x5, x6, x7⟩ := HX.out _ hb
            by_cases hlt : k < b.names.length
            · obtain ⟨_, _, va, hcap, -, -, -, a5⟩ := HSN.out
              obtain ⟨ab, aoff, ha, abb, ac⟩ := a5 (by omega)
              injection va with va1 _ va3
              subst va1 va3 ha
              have e0 := strs_cell (HB.out _ hb) abb ac hlt
              obtain ⟨s, hs⟩ : ∃ s, b.names[k] = s := ⟨_, rfl⟩
              rw [hs] at e0
              have HS := Lib.hid hs
              have hix := fun w' => idx_str (ab := ab) (aoff := aoff) (n := b.names.length) (cap := sc) (show (k : Int) = ((k : Nat) : Int) by rfl) hlt w'
              have HNA := Lib.hid fun w' => name_any s w' (HST.out s (by rw [← hs]; exact List.getElem_mem hlt))
              have HCO := Lib.hid fun w' (hb : Below W0.heap.size W0 w') => containsStr_any (s := s) (StrsAt.take (HSN.out.below (HB.out w' hb) (Nat.le_refl _)) (Nat.le_of_lt hlt))
              have hks : (k : Int) ≤ (sc : Int) := by omega
              have hk0 : (0 : Int) ≤ (k : Int) := by omega
              have hks2 : k ≤ sc := by omega
              clear hs a5 ac
              cases hnm : nameMay s with
              | false =>
                have HNO := Lib.hid (checkE_no (baseMay_no fun h : BaseOk b => by have := (h.names k hlt).1; rw [HS.out, hnm] at this; cases this))
                rw [hnm] at HNA
                clear hnm
                go_wp2_with ((go_at_call 56; (with_reducible refine (HNA.out _).mono ?_); rintro e w2 ⟨rfl, hb2⟩))
                go_ret
                rw [HNO.out]
                exact ⟨rfl, HB.out _ (Below.trans' hb hb2 hb.size)⟩
              | true =>
                have HNMT := Lib.hid hnm
                rw [hnm] at HNA
                clear hnm
                have HPC := Lib.hid (place_cases (b.names.take k) s)
                obtain ⟨p, hp⟩ : ∃ p, placeI (b.names.take k) s = p := ⟨_, rfl⟩
                rw [hp] at HCO HPC
                clear hp
                by_cases hp0 : 0 ≤ p
                · have hpd : decide (0 ≤ p) = true := by simp [hp0]
                  have HNO := Lib.hid (checkE_no (baseMay_no fun h : BaseOk b => by
                    rcases HPC.out with ⟨j, hj, _, hjs, _⟩ | ⟨h1, _⟩
                    · have hjk : j < k := by rw [List.length_take] at hj; omega
                      rw [List.getElem_take] at hjs
                      exact (h.names k hlt).2 j hjk (by rw [HS.out]; exact hjs)
                    · omega))
                  rw [hpd] at HCO
                  clear hp0 hpd
                  go_wp2_with (first | (go_at_call 56; (with_reducible refine (HNA.out _).mono ?_); rintro e w2 ⟨rfl, hb2⟩; have hb3 := Below.trans' hb hb2 hb.size; obtain ⟨x0, -⟩ := HX.out _ hb3) | (go_at_call 30; (with_reducible refine (HCO.out _ hb3).mono ?_); rintro e w4 ⟨rfl, hb4⟩; have hb5 := Below.trans' hb3 hb4 hb3.size))
                  go_ret
                  rw [HNO.out]
                  exact ⟨rfl, HB.out _ hb5⟩
                · have hpd : decide (0 ≤ p) = false := by simp; omega
                  have HNM2 := Lib.hid (show ∀ j, j < k + 1 → NameAt b j from fun j hj => by
                    by_cases hjk : j = k
                    · subst hjk
                      intro h
                      refine ⟨by rw [HS.out]; exact HNMT.out, fun m hm => ?_⟩
                      rcases HPC.out with ⟨q, _, h1, _⟩ | ⟨_, h2⟩
                      · omega
                      · have := h2 m (by rw [List.length_take]; omega)
                        rw [List.getElem_take] at this
                        rw [HS.out]; exact this
                    · exact HNM.out j (by omega))
                  rw [hpd] at HCO
                  clear hp0 hpd
                  go_wp2_with (first | (go_at_call 56; (with_reducible refine (HNA.out _).mono ?_); rintro e w2 ⟨rfl, hb2⟩; have hb3 := Below.trans' hb hb2 hb.size; obtain ⟨x0, -⟩ := HX.out _ hb3) | (go_at_call 30; (with_reducible refine (HCO.out _ hb3).mono ?_); rintro e w4 ⟨rfl, hb4⟩; have hb5 := Below.trans' hb3 hb4 hb3.size))
                  go_roundg (b.names.length - (k + 1))
                  case measure => omega
                  case rel => exact ⟨k + 1, by omega, rfl, by go_num, HNM2, hb5⟩
            · have HNMS := Lib.hid (show NamesOk b from fun i hi => HNM.out i (by omega) hi)
              have HPO := Lib.hid (points_any (HBA.out.below (HB.out _ hb)))
              have hbz := hb.size
              cases hbk : bookR b with
              | none =>
                have HNO := Lib.hid (checkE_no (baseMay_no fun h : BaseOk b => by obtain ⟨l, e, _⟩ := h.trees; rw [hbk] at e; cases e))
                rw [hbk] at HPO
                clear hbk
                go_wp2_with ((go_at_call 57; (with_reducible refine HPO.out.mono ?_); rintro e w5 ⟨hb5, rfl⟩; have hb5' := Below.trans' hb hb5 hb.size))
                go_ret
                rw [HNO.out]
                exact ⟨rfl, HB.out _ hb5'⟩
              | some l =>
                have HBK := Lib.hid hbk
                have HLG := Lib.hid (bookR_good hbk)
                have hll : l.length ≤ 50000 := (bookR_good hbk).2.2.2
                rw [hbk] at HPO
                clear hbk
                go_upto_region 12 with ((go_at_call 57; (with_reducible refine HPO.out.mono ?_); rintro e w5 ⟨hb5, v5, rfl, ho5⟩; have hb5' := Below.trans' hb hb5 hb.size; obtain ⟨s5, c5, rfl⟩ := ho5.isSlice; obtain ⟨-, z0, z1, z2⟩ := HSZ.out _ hb5'))
                clear x0 x1 x2 x3 x4 x5 x6 x7
                have hz5 := hb5'.size
                go_wp2_with fail
                clear z0 z1 z2
                go_loopg [63] 3 (fun g i wr => ∃ k : Nat, k ≤ 3 ∧ g = 3 - k ∧ i = .int .i64 k ∧ Hid (∀ j, j < k → treeOk l (b.tree j) (szOf j) = true) ∧ Below w5.heap.size w5 wr)
                case atStart => exact ⟨0, by omega, rfl, rfl, Lib.hid (fun j hj => by omega), Below.refl _ _⟩
                case round =>
                  obtain ⟨k, hk, rfl, rfl, HREL, hbr⟩ := hrel
                  have hbk := Below.trans' hb5' hbr hz5
                  by_cases hlt3 : k < 3
                  · obtain rfl | rfl | rfl : k = 0 ∨ k = 1 ∨ k = 2 := by omega
                    · have HRO := Lib.hid fun w' (hb : Below w5.heap.size w5 w') => proRolled_any (size := 1) ((ho5.below hb (Nat.le_refl _)).at (by omega)) HLG.out.2 HLG.out.1 (by decide)
                      have HAL := Lib.hid fun w' (hb : Below W0.heap.size W0 w') => HT0.out w' hb
                      have hiz := idx_sizes0
                      cases hro : rolledR l 1 with
                      | none =>
                        have HNO := Lib.hid (checkE_no (may_bad HBK.out (k := 0) (by decide) (treeOk_no1 hro)))
                        rw [hro] at HRO
                        clear hro
                        cases hal : allT b.t0 with
                        | none =>
                          rw [hal] at HAL
                          clear hal
                          go_wp2_with (first | (go_at_call 58; (with_reducible refine (HRO.out _ hbr).mono ?_); rintro e wq ⟨hbq, rfl⟩; have hbq' := Below.trans' hbr hbq hbr.size; have hbq0 := Below.trans' hb5' hbq' hz5; obtain ⟨x0, x1, x2, x3, x4, x5, x6, x7⟩ := HX.out _ hbq0) | (go_at_call 24; (with_reducible refine (HAL.out _ hbq0).mono ?_); rintro e wa ⟨hba, E, hE, rfl⟩; have hba' := Below.trans' hbq' hba hbq'.size; have hba0 := Below.trans' hb5' hba' hz5))
                          go_ret
                          rw [HNO.out]
                          exact ⟨rfl, HB.out _ hba0⟩
                        | some c =>
                          rw [hal] at HAL
                          clear hal
                          go_wp2_with (first | (go_at_call 58; (with_reducible refine (HRO.out _ hbr).mono ?_); rintro e wq ⟨hbq, rfl⟩; have hbq' := Below.trans' hbr hbq hbr.size; have hbq0 := Below.trans' hb5' hbq' hz5; obtain ⟨x0, x1, x2, x3, x4, x5, x6, x7⟩ := HX.out _ hbq0) | (go_at_call 24; (with_reducible refine (HAL.out _ hbq0).mono ?_); rintro e wa ⟨hba, va, rfl, hoa⟩; have hba' := Below.trans' hbq' hba hbq'.size; have hba0 := Below.trans' hb5' hba' hz5; obtain ⟨sA, cA, rfl⟩ := hoa.isSlice))
                          go_ret
                          rw [HNO.out]
                          exact ⟨rfl, HB.out _ hba0⟩
                      | some a =>
                        have HRL := Lib.hid (pgood_bag (bucket_good (size := 1) (by decide) HLG.out.2) hro)
                        rw [hro] at HRO
                        cases hal : allT b.t0 with
                        | none =>
                          have HNO := Lib.hid (checkE_no (may_bad HBK.out (k := 0) (by decide) (show treeOk l b.t0 1 = false from treeOk_no2 hal)))
                          rw [hal] at HAL
                          clear hal hro
                          go_wp2_with (first | (go_at_call 58; (with_reducible refine (HRO.out _ hbr).mono ?_); rintro e wq ⟨hbq, vq, rfl, hoq⟩; have hbq' := Below.trans' hbr hbq hbr.size; have hbq0 := Below.trans' hb5' hbq' hz5; obtain ⟨x0, x1, x2, x3, x4, x5, x6, x7⟩ := HX.out _ hbq0; obtain ⟨sQ, cQ, rfl⟩ := hoq.isSlice) | (go_at_call 24; (with_reducible refine (HAL.out _ hbq0).mono ?_); rintro e wa ⟨hba, E, hE, rfl⟩; have hba' := Below.trans' hbq' hba hbq'.size; have hba0 := Below.trans' hb5' hba' hz5))
                          go_ret
                          rw [HNO.out]
                          exact ⟨rfl, HB.out _ hba0⟩
                        | some c =>
                          have HTK := Lib.hid (show treeOk l (b.tree 0) (szOf 0) = decide (a = c) from treeOk_some hro hal)
                          have HCL := Lib.hid (allT_good hal)
                          rw [hal] at HAL
                          clear hal hro
                          cases hac : decide (a = c) with
                          | false =>
                            have HNO := Lib.hid (checkE_no (may_bad HBK.out (k := 0) (by decide) (HTK.out.trans hac)))
                            go_wp2_with (first | (go_at_call 58; (with_reducible refine (HRO.out _ hbr).mono ?_); rintro e wq ⟨hbq, vq, rfl, hoq⟩; have hbq' := Below.trans' hbr hbq hbr.size; have hbq0 := Below.trans' hb5' hbq' hz5; obtain ⟨x0, x1, x2, x3, x4, x5, x6, x7⟩ := HX.out _ hbq0; obtain ⟨sQ, cQ, rfl⟩ := hoq.isSlice) | (go_at_call 24; (with_reducible refine (HAL.out _ hbq0).mono ?_); rintro e wa ⟨hba, va, rfl, hoa⟩; have hba' := Below.trans' hbq' hba hbq'.size; have hba0 := Below.trans' hb5' hba' hz5; obtain ⟨sA, cA, rfl⟩ := hoa.isSlice; have HSE := Lib.hid (equalEnts_any ((hoq.below hba (Nat.le_refl _)).at (by have := HRL.out.2.2; omega)) (hoa.at (by have := HCL.out.2.2.2; omega)))) | (go_at_call 39; rw [hac] at HSE; (with_reducible refine HSE.out.mono ?_); rintro e ws ⟨rfl, hbs⟩; have hbs' := Below.trans' hba' hbs hba'.size; have hbs0 := Below.trans' hb5' hbs' hz5))
                            go_ret
                            rw [HNO.out]
                            exact ⟨rfl, HB.out _ hbs0⟩
                          | true =>
                            have HNX := Lib.hid (show ∀ j, j < 0 + 1 → treeOk l (b.tree j) (szOf j) = true from fun j hj => by
                              by_cases hjk : j = 0
                              · subst hjk; exact HTK.out.trans hac
                              · exact HREL.out j (by omega))
                            go_wp2_with (first | (go_at_call 58; (with_reducible refine (HRO.out _ hbr).mono ?_); rintro e wq ⟨hbq, vq, rfl, hoq⟩; have hbq' := Below.trans' hbr hbq hbr.size; have hbq0 := Below.trans' hb5' hbq' hz5; obtain ⟨x0, x1, x2, x3, x4, x5, x6, x7⟩ := HX.out _ hbq0; obtain ⟨sQ, cQ, rfl⟩ := hoq.isSlice) | (go_at_call 24; (with_reducible refine (HAL.out _ hbq0).mono ?_); rintro e wa ⟨hba, va, rfl, hoa⟩; have hba' := Below.trans' hbq' hba hbq'.size; have hba0 := Below.trans' hb5' hba' hz5; obtain ⟨sA, cA, rfl⟩ := hoa.isSlice; have HSE := Lib.hid (equalEnts_any ((hoq.below hba (Nat.le_refl _)).at (by have := HRL.out.2.2; omega)) (hoa.at (by have := HCL.out.2.2.2; omega)))) | (go_at_call 39; rw [hac] at HSE; (with_reducible refine HSE.out.mono ?_); rintro e ws ⟨rfl, hbs⟩; have hbs' := Below.trans' hba' hbs hba'.size; have hbs0 := Below.trans' hb5' hbs' hz5))
                            go_roundg (3 - (0 + 1))
                            case measure => omega
                            case rel => exact ⟨0 + 1, by omega, rfl, by go_num, HNX, hbs'⟩
                    · have HRO := Lib.hid fun w' (hb : Below w5.heap.size w5 w') => proRolled_any (size := 60) ((ho5.below hb (Nat.le_refl _)).at (by omega)) HLG.out.2 HLG.out.1 (by decide)
                      have HAL := Lib.hid fun w' (hb : Below W0.heap.size W0 w') => HT1.out w' hb
                      have hiz := idx_sizes1
                      cases hro : rolledR l 60 with
                      | none =>
                        have HNO := Lib.hid (checkE_no (may_bad HBK.out (k := 1) (by decide) (treeOk_no1 hro)))
                        rw [hro] at HRO
                        clear hro
                        cases hal : allT b.t1 with
                        | none =>
                          rw [hal] at HAL
                          clear hal
                          go_wp2_with (first | (go_at_call 58; (with_reducible refine (HRO.out _ hbr).mono ?_); rintro e wq ⟨hbq, rfl⟩; have hbq' := Below.trans' hbr hbq hbr.size; have hbq0 := Below.trans' hb5' hbq' hz5; obtain ⟨x0, x1, x2, x3, x4, x5, x6, x7⟩ := HX.out _ hbq0) | (go_at_call 24; (with_reducible refine (HAL.out _ hbq0).mono ?_); rintro e wa ⟨hba, E, hE, rfl⟩; have hba' := Below.trans' hbq' hba hbq'.size; have hba0 := Below.trans' hb5' hba' hz5))
                          go_ret
                          rw [HNO.out]
                          exact ⟨rfl, HB.out _ hba0⟩
                        | some c =>
                          rw [hal] at HAL
                          clear hal
                          go_wp2_with (first | (go_at_call 58; (with_reducible refine (HRO.out _ hbr).mono ?_); rintro e wq ⟨hbq, rfl⟩; have hbq' := Below.trans' hbr hbq hbr.size; have hbq0 := Below.trans' hb5' hbq' hz5; obtain ⟨x0, x1, x2, x3, x4, x5, x6, x7⟩ := HX.out _ hbq0) | (go_at_call 24; (with_reducible refine (HAL.out _ hbq0).mono ?_); rintro e wa ⟨hba, va, rfl, hoa⟩; have hba' := Below.trans' hbq' hba hbq'.size; have hba0 := Below.trans' hb5' hba' hz5; obtain ⟨sA, cA, rfl⟩ := hoa.isSlice))
                          go_ret
                          rw [HNO.out]
                          exact ⟨rfl, HB.out _ hba0⟩
                      | some a =>
                        have HRL := Lib.hid (pgood_bag (bucket_good (size := 60) (by decide) HLG.out.2) hro)
                        rw [hro] at HRO
                        cases hal : allT b.t1 with
                        | none =>
                          have HNO := Lib.hid (checkE_no (may_bad HBK.out (k := 1) (by decide) (show treeOk l b.t1 60 = false from treeOk_no2 hal)))
                          rw [hal] at HAL
                          clear hal hro
                          go_wp2_with (first | (go_at_call 58; (with_reducible refine (HRO.out _ hbr).mono ?_); rintro e wq ⟨hbq, vq, rfl, hoq⟩; have hbq' := Below.trans' hbr hbq hbr.size; have hbq0 := Below.trans' hb5' hbq' hz5; obtain ⟨x0, x1, x2, x3, x4, x5, x6, x7⟩ := HX.out _ hbq0; obtain ⟨sQ, cQ, rfl⟩ := hoq.isSlice) | (go_at_call 24; (with_reducible refine (HAL.out _ hbq0).mono ?_); rintro e wa ⟨hba, E, hE, rfl⟩; have hba' := Below.trans' hbq' hba hbq'.size; have hba0 := Below.trans' hb5' hba' hz5))
                          go_ret
                          rw [HNO.out]
                          exact ⟨rfl, HB.out _ hba0⟩
                        | some c =>
                          have HTK := Lib.hid (show treeOk l (b.tree 1) (szOf 1) = decide (a = c) from treeOk_some hro hal)
                          have HCL := Lib.hid (allT_good hal)
                          rw [hal] at HAL
                          clear hal hro
                          cases hac : decide (a = c) with
                          | false =>
                            have HNO := Lib.hid (checkE_no (may_bad HBK.out (k := 1) (by decide) (HTK.out.trans hac)))
                            go_wp2_with (first | (go_at_call 58; (with_reducible refine (HRO.out _ hbr).mono ?_); rintro e wq ⟨hbq, vq, rfl, hoq⟩; have hbq' := Below.trans' hbr hbq hbr.size; have hbq0 := Below.trans' hb5' hbq' hz5; obtain ⟨x0, x1, x2, x3, x4, x5, x6, x7⟩ := HX.out _ hbq0; obtain ⟨sQ, cQ, rfl⟩ := hoq.isSlice) | (go_at_call 24; (with_reducible refine (HAL.out _ hbq0).mono ?_); rintro e wa ⟨hba, va, rfl, hoa⟩; have hba' := Below.trans' hbq' hba hbq'.size; have hba0 := Below.trans' hb5' hba' hz5; obtain ⟨sA, cA, rfl⟩ := hoa.isSlice; have HSE := Lib.hid (equalEnts_any ((hoq.below hba (Nat.le_refl _)).at (by have := HRL.out.2.2; omega)) (hoa.at (by have := HCL.out.2.2.2; omega)))) | (go_at_call 39; rw [hac] at HSE; (with_reducible refine HSE.out.mono ?_); rintro e ws ⟨rfl, hbs⟩; have hbs' := Below.trans' hba' hbs hba'.size; have hbs0 := Below.trans' hb5' hbs' hz5))
                            go_ret
                            rw [HNO.out]
                            exact ⟨rfl, HB.out _ hbs0⟩
                          | true =>
                            have HNX := Lib.hid (show ∀ j, j < 1 + 1 → treeOk l (b.tree j) (szOf j) = true from fun j hj => by
                              by_cases hjk : j = 1
                              · subst hjk; exact HTK.out.trans hac
                              · exact HREL.out j (by omega))
                            go_wp2_with (first | (go_at_call 58; (with_reducible refine (HRO.out _ hbr).mono ?_); rintro e wq ⟨hbq, vq, rfl, hoq⟩; have hbq' := Below.trans' hbr hbq hbr.size; have hbq0 := Below.trans' hb5' hbq' hz5; obtain ⟨x0, x1, x2, x3, x4, x5, x6, x7⟩ := HX.out _ hbq0; obtain ⟨sQ, cQ, rfl⟩ := hoq.isSlice) | (go_at_call 24; (with_reducible refine (HAL.out _ hbq0).mono ?_); rintro e wa ⟨hba, va, rfl, hoa⟩; have hba' := Below.trans' hbq' hba hbq'.size; have hba0 := Below.trans' hb5' hba' hz5; obtain ⟨sA, cA, rfl⟩ := hoa.isSlice; have HSE := Lib.hid (equalEnts_any ((hoq.below hba (Nat.le_refl _)).at (by have := HRL.out.2.2; omega)) (hoa.at (by have := HCL.out.2.2.2; omega)))) | (go_at_call 39; rw [hac] at HSE; (with_reducible refine HSE.out.mono ?_); rintro e ws ⟨rfl, hbs⟩; have hbs' := Below.trans' hba' hbs hba'.size; have hbs0 := Below.trans' hb5' hbs' hz5))
                            go_roundg (3 - (1 + 1))
                            case measure => omega
                            case rel => exact ⟨1 + 1, by omega, rfl, by go_num, HNX, hbs'⟩
                    · have HRO := Lib.hid fun w' (hb : Below w5.heap.size w5 w') => proRolled_any (size := 3600) ((ho5.below hb (Nat.le_refl _)).at (by omega)) HLG.out.2 HLG.out.1 (by decide)
                      have HAL := Lib.hid fun w' (hb : Below W0.heap.size W0 w') => HT2.out w' hb
                      have hiz := idx_sizes2
                      cases hro : rolledR l 3600 with
                      | none =>
                        have HNO := Lib.hid (checkE_no (may_bad HBK.out (k := 2) (by decide) (treeOk_no1 hro)))
                        rw [hro] at HRO
                        clear hro
                        cases hal : allT b.t2 with
                        | none =>
                          rw [hal] at HAL
                          clear hal
                          go_wp2_with (first | (go_at_call 58; (with_reducible refine (HRO.out _ hbr).mono ?_); rintro e wq ⟨hbq, rfl⟩; have hbq' := Below.trans' hbr hbq hbr.size; have hbq0 := Below.trans' hb5' hbq' hz5; obtain ⟨x0, x1, x2, x3, x4, x5, x6, x7⟩ := HX.out _ hbq0) | (go_at_call 24; (with_reducible refine (HAL.out _ hbq0).mono ?_); rintro e wa ⟨hba, E, hE, rfl⟩; have hba' := Below.trans' hbq' hba hbq'.size; have hba0 := Below.trans' hb5' hba' hz5))
                          go_ret
                          rw [HNO.out]
                          exact ⟨rfl, HB.out _ hba0⟩
                        | some c =>
                          rw [hal] at HAL
                          clear hal
                          go_wp2_with (first | (go_at_call 58; (with_reducible refine (HRO.out _ hbr).mono ?_); rintro e wq ⟨hbq, rfl⟩; have hbq' := Below.trans' hbr hbq hbr.size; have hbq0 := Below.trans' hb5' hbq' hz5; obtain ⟨x0, x1, x2, x3, x4, x5, x6, x7⟩ := HX.out _ hbq0) | (go_at_call 24; (with_reducible refine (HAL.out _ hbq0).mono ?_); rintro e wa ⟨hba, va, rfl, hoa⟩; have hba' := Below.trans' hbq' hba hbq'.size; have hba0 := Below.trans' hb5' hba' hz5; obtain ⟨sA, cA, rfl⟩ := hoa.isSlice))
                          go_ret
                          rw [HNO.out]
                          exact ⟨rfl, HB.out _ hba0⟩
                      | some a =>
                        have HRL := Lib.hid (pgood_bag (bucket_good (size := 3600) (by decide) HLG.out.2) hro)
                        rw [hro] at HRO
                        cases hal : allT b.t2 with
                        | none =>
                          have HNO := Lib.hid (checkE_no (may_bad HBK.out (k := 2) (by decide) (show treeOk l b.t2 3600 = false from treeOk_no2 hal)))
                          rw [hal] at HAL
                          clear hal hro
                          go_wp2_with (first | (go_at_call 58; (with_reducible refine (HRO.out _ hbr).mono ?_); rintro e wq ⟨hbq, vq, rfl, hoq⟩; have hbq' := Below.trans' hbr hbq hbr.size; have hbq0 := Below.trans' hb5' hbq' hz5; obtain ⟨x0, x1, x2, x3, x4, x5, x6, x7⟩ := HX.out _ hbq0; obtain ⟨sQ, cQ, rfl⟩ := hoq.isSlice) | (go_at_call 24; (with_reducible refine (HAL.out _ hbq0).mono ?_); rintro e wa ⟨hba, E, hE, rfl⟩; have hba' := Below.trans' hbq' hba hbq'.size; have hba0 := Below.trans' hb5' hba' hz5))
                          go_ret
                          rw [HNO.out]
                          exact ⟨rfl, HB.out _ hba0⟩
                        | some c =>
                          have HTK := Lib.hid (show treeOk l (b.tree 2) (szOf 2) = decide (a = c) from treeOk_some hro hal)
                          have HCL := Lib.hid (allT_good hal)
                          rw [hal] at HAL
                          clear hal hro
                          cases hac : decide (a = c) with
                          | false =>
                            have HNO := Lib.hid (checkE_no (may_bad HBK.out (k := 2) (by decide) (HTK.out.trans hac)))
                            go_wp2_with (first | (go_at_call 58; (with_reducible refine (HRO.out _ hbr).mono ?_); rintro e wq ⟨hbq, vq, rfl, hoq⟩; have hbq' := Below.trans' hbr hbq hbr.size; have hbq0 := Below.trans' hb5' hbq' hz5; obtain ⟨x0, x1, x2, x3, x4, x5, x6, x7⟩ := HX.out _ hbq0; obtain ⟨sQ, cQ, rfl⟩ := hoq.isSlice) | (go_at_call 24; (with_reducible refine (HAL.out _ hbq0).mono ?_); rintro e wa ⟨hba, va, rfl, hoa⟩; have hba' := Below.trans' hbq' hba hbq'.size; have hba0 := Below.trans' hb5' hba' hz5; obtain ⟨sA, cA, rfl⟩ := hoa.isSlice; have HSE := Lib.hid (equalEnts_any ((hoq.below hba (Nat.le_refl _)).at (by have := HRL.out.2.2; omega)) (hoa.at (by have := HCL.out.2.2.2; omega)))) | (go_at_call 39; rw [hac] at HSE; (with_reducible refine HSE.out.mono ?_); rintro e ws ⟨rfl, hbs⟩; have hbs' := Below.trans' hba' hbs hba'.size; have hbs0 := Below.trans' hb5' hbs' hz5))
                            go_ret
                            rw [HNO.out]
                            exact ⟨rfl, HB.out _ hbs0⟩
                          | true =>
                            have HNX := Lib.hid (show ∀ j, j < 2 + 1 → treeOk l (b.tree j) (szOf j) = true from fun j hj => by
                              by_cases hjk : j = 2
                              · subst hjk; exact HTK.out.trans hac
                              · exact HREL.out j (by omega))
                            go_wp2_with (first | (go_at_call 58; (with_reducible refine (HRO.out _ hbr).mono ?_); rintro e wq ⟨hbq, vq, rfl, hoq⟩; have hbq' := Below.trans' hbr hbq hbr.size; have hbq0 := Below.trans' hb5' hbq' hz5; obtain ⟨x0, x1, x2, x3, x4, x5, x6, x7⟩ := HX.out _ hbq0; obtain ⟨sQ, cQ, rfl⟩ := hoq.isSlice) | (go_at_call 24; (with_reducible refine (HAL.out _ hbq0).mono ?_); rintro e wa ⟨hba, va, rfl, hoa⟩; have hba' := Below.trans' hbq' hba hbq'.size; have hba0 := Below.trans' hb5' hba' hz5; obtain ⟨sA, cA, rfl⟩ := hoa.isSlice; have HSE := Lib.hid (equalEnts_any ((hoq.below hba (Nat.le_refl _)).at (by have := HRL.out.2.2; omega)) (hoa.at (by have := HCL.out.2.2.2; omega)))) | (go_at_call 39; rw [hac] at HSE; (with_reducible refine HSE.out.mono ?_); rintro e ws ⟨rfl, hbs⟩; have hbs' := Below.trans' hba' hbs hba'.size; have hbs0 := Below.trans' hb5' hbs' hz5))
                            go_roundg (3 - (2 + 1))
                            case measure => omega
                            case rel => exact ⟨2 + 1, by omega, rfl, by go_num, HNX, hbs'⟩
                  · obtain rfl : k = 3 := by omega
                    have HYES := Lib.hid (checkE_yes (baseMay_yes ⟨HN1.out, HI2.out, HI2'.out, HI3.out, HNMS.out, l, HBK.out, HREL.out⟩))
                    go_wp2
                    go_ret
                    rw [HYES.out]
                    exact ⟨rfl, HB.out _ hbk⟩
        · have e3 : (R != 0) = true := by simp [i3]
          have HNO := Lib.hid (checkE_no (baseMay_no fun h : BaseOk b => i3 (HR.out.symm.trans h.fl2)))
          clear i1 i2 i2' i3 hR
          go_wp2
          go_ret
          rw [HNO.out]
          exact ⟨rfl, hb0⟩
      · have e2' : decide (1048575 < b.floor) = true := by simp; omega
        have HNO := Lib.hid (checkE_no (baseMay_no fun h : BaseOk b => i2' h.fl1))
        clear i1 i2 i2'
        go_wp2
        go_ret
        rw [HNO.out]
        exact ⟨rfl, hb0⟩
    · have e2 : decide (b.floor < 0) = true := by simp; omega
      have HNO := Lib.hid (checkE_no (baseMay_no fun h : BaseOk b => i2 h.fl0))
      clear i1 i2
      go_wp2
      go_ret
      rw [HNO.out]
      exact ⟨rfl, hb0⟩
  · have e1 : decide ((16 : Int) < (b.names.length : Int)) = true := by simp; omega
    have HNO := Lib.hid (checkE_no (baseMay_no fun h : BaseOk b => i1 h.n16))
    clear i1
    go_wp2
    go_ret
    rw [HNO.out]
    exact ⟨rfl, hb0⟩
end Go.Proofs.YtggcinmjmkfboaaDoor
