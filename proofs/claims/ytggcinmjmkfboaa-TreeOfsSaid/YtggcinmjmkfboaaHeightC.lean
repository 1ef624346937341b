/- The walk of the document's height of a node that has kids. -/
import Derived.Test.YtggcinmjmkfboaaHeightB
import Derived.Deep.CutBlock
namespace Go.Proofs.Ytggcinmjmkfboaa
open Go.RowKit

set_option maxRecDepth 100000 in
set_option maxHeartbeats 2000000 in
theorem height_inner {t : Tr} {nv : Value} {w0 : World} (h0 : NodesAt w0 nv t.nodes) {f : Nat} {n lo hi d : Int} {S : List Int} {w : World} {sb cap : Nat} {x : Nd} (hb0 : Below w0.heap.size w0 w) (hsb : w0.heap.size ≤ sb) (hs : SeenAt w sb t.nodes.length S) (hd0 : d = 12 - f) (hf : f ≤ 11)
    (IH : ∀ (n lo hi d : Int) (S : List Int) (w : World) (cap : Nat), d = 13 - f → Below w0.heap.size w0 w → SeenAt w sb t.nodes.length S → hi ≤ 9223372036854775807 → 0 ≤ lo →
      Calls Try.prog 43 #[.agg #[nv, .int .i64 t.root], .int .i64 n, .int .i64 lo, .int .i64 hi, .int .i64 d, .slice (some ⟨sb, 0, none⟩) t.nodes.length cap] w (HeightPost w0 sb t.nodes.length (heightR t f n lo hi S) w))
    (hhi : hi ≤ 9223372036854775807) (hlo : 0 ≤ lo) (hx : t.at? n = some x) (hnS : n ∉ S) (hlt : lo < hi) (hleaf : x.leaf = false) :
    Calls Try.prog 43 #[.agg #[nv, .int .i64 t.root], .int .i64 n, .int .i64 lo, .int .i64 hi, .int .i64 d, .slice (some ⟨sb, 0, none⟩) t.nodes.length cap] w (HeightPost w0 sb t.nodes.length (heightR t (f + 1) n lo hi S) w) := by
  have hyes : InnOk x lo hi → heightR t (f + 1) n lo hi S = kidsR (fun k a b s => heightR t f k a b s) x lo hi x.kids 0 (0, n :: S) := fun h => heightR_inner hx hnS hlt hleaf h
  have hno : ¬ InnOk x lo hi → heightR t (f + 1) n lo hi S = none := fun h => heightR_noinner hx hleaf h
  have hd1 : 1 ≤ d := by omega
  have hd : d ≤ 12 := by omega
  obtain ⟨hn0, hn1, hn2⟩ := at?_get hx
  obtain ⟨j, hj⟩ : ∃ j : Nat, n = j := ⟨n.toNat, by omega⟩
  subst hj
  rw [Int.toNat_natCast] at hn1 hn2
  obtain ⟨nb, noff, c, ev, kv, dv, bv, rfl, hnb, hE, hK, hD, hB, c0, c1, c2, c3, c4⟩ := node_later h0 hb0 hn2
  have hlen := h0.len.2
  obtain ⟨ae, ne, rfl⟩ := hE.isSlice
  obtain ⟨ak, nk, rfl⟩ := hK.isSlice
  obtain ⟨ad, ndd, rfl⟩ := hD.isSlice
  obtain ⟨ab, nbb, rfl⟩ := hB.isSlice
  obtain ⟨s0, s1⟩ := hs.2 j hn1
  have hsl := hs.1
  have hbz := hb0.size
  have hsnb : sb ≠ nb := by omega
  have hnbw : nb < w.heap.size := by omega
  have d1 : inR (j : Int) 0 ((t.nodes.length : Int) - 1) = true := inR_true.2 (by omega)
  have l1 := hE.len (by decide)
  have l2 := hK.len (by decide)
  have l3 := hD.len (by decide)
  have l4 := hB.len (by decide)
  rw [if_neg hnS] at s0
  rw [hleaf] at c0
  have SN : SeenAt (w.setCell ⟨sb, j, none⟩ (.int .i64 1)) sb t.nodes.length ((j : Int) :: S) := hs.set rfl hn1
  have HE := Lib.hid fun w' (hb : Below w0.heap.size w0 w') => may_any (lo := lo) (hi := hi) (hB.below hb (Nat.le_refl _)) (by omega) hhi
  have HIFF := Lib.hid (innOk_iff (x := x) (lo := lo) (hi := hi))
  have HYES := Lib.hid hyes
  have HNO := Lib.hid hno
  have HIH := Lib.hid IH
  have HD0 := Lib.hid hd0
  have HKEY := Lib.hid fun w' (hb : Below w0.heap.size w0 w') (i : Nat) (y : Int) (hy : x.keys[i]? = some y) => IntsAt.get (hK.below hb (Nat.le_refl _)) hy
  have HKID := Lib.hid fun w' (hb : Below w0.heap.size w0 w') (i : Nat) (y : Int) (hy : x.kids[i]? = some y) => IntsAt.get (hD.below hb (Nat.le_refl _)) hy
  clear hs h0 hE hK hD hB hx hn0 hnS hyes hno hleaf hd0 IH
  obtain ⟨lk, hlk⟩ : ∃ lk, x.keys.length = lk := ⟨_, rfl⟩
  obtain ⟨ld, hld⟩ : ∃ ld, x.kids.length = ld := ⟨_, rfl⟩
  have HLK := Lib.hid hlk
  have HLD := Lib.hid hld
  clear hlk hld
  generalize x.ents.length = le at *
  generalize x.buf.length = lb at *
  generalize entsB x.buf lo hi = be at *
  rw [HLK.out] at c2 l2 HIFF
  rw [HLD.out] at c3 l3 HIFF
  have hw1 : IntKind.i64.wrap ((t.nodes.length : Int) - 1) = (t.nodes.length : Int) - 1 := IntWalk.i64_in _ (by omega)
  go_enter Try.func43, Try.ntmps43
  go_upto_region 7 with ((go_at_call 16; refine (in_any _ _ _ _).mono ?_; rintro e w' ⟨rfl, rfl⟩))
  clear hw1
  obtain ⟨W2, hW2⟩ : ∃ W2, W2 = (((w.setCell ⟨sb, j, none⟩ (.int .i64 1)).alloc (.cells #[.slice (some ⟨nb, noff, none⟩) t.nodes.length c, .int .i64 t.root] 25)).alloc (.cells #[.bool false, .slice ae le ne, .slice ak lk nk, .slice ad ld ndd, .slice ab lb nbb] 59)) := ⟨_, rfl⟩
  have ht2 : Turn (· = sb) w W2 := by rw [hW2]; exact (by repeat (first | exact Turn.refl _ _ | assumption | refine Turn.drewN ?_ _ | refine Turn.drew ?_ | refine Turn.alloc ?_ _ | refine Turn.setCell ?_ (by first | exact .inl rfl | (right; first | omega | (simp; done) | (simp; omega))) _))
  have hb2 : Below w0.heap.size w0 W2 := ht2.below hb0 (by omega) (fun i hi => by omega)
  have sn2 : SeenAt W2 sb t.nodes.length ((j : Int) :: S) := by rw [hW2]; exact SN.turn (X := fun _ => False) (((Turn.refl _ _).alloc _).alloc _) (fun h => h)
  have k0 : W2.heap[w.heap.size]? = some (.cells #[.slice (some ⟨nb, noff, none⟩) t.nodes.length c, .int .i64 t.root] 25) := by
    rw [hW2, Below.heap_alloc _ _ _ (by simp [heap_setCell_size])]; exact heap_new _ _ (by rw [heap_setCell_size])
  have k1 : W2.heap[w.heap.size + 1]? = some (.cells #[.bool false, .slice ae le ne, .slice ak lk nk, .slice ad ld ndd, .slice ab lb nbb] 59) := by
    rw [hW2]; exact heap_new _ _ (by simp [heap_setCell_size])
  have q0 : W2.cell? ⟨w.heap.size, 1, none⟩ = some (.int .i64 t.root) := by simp [World.cell?, k0]
  obtain ⟨x0, x1, x2, x3, x4⟩ : W2.cell? ⟨w.heap.size + 1, 0, none⟩ = some (.bool false) ∧ W2.cell? ⟨w.heap.size + 1, 1, none⟩ = some (.slice ae le ne) ∧ W2.cell? ⟨w.heap.size + 1, 2, none⟩ = some (.slice ak lk nk) ∧ W2.cell? ⟨w.heap.size + 1, 3, none⟩ = some (.slice ad ld ndd) ∧ W2.cell? ⟨w.heap.size + 1, 4, none⟩ = some (.slice ab lb nbb) := by
    simp [World.cell?, k1]
  rw [← hW2]
  have HEW := Lib.hid (HE.out W2 hb2)
  clear hW2 SN s0 s1 c0 c1 c2 c3 c4 hb0 HE
  by_cases hok : InnOk x lo hi
  · have HR := Lib.hid (HYES.out hok)
    obtain ⟨e1, e2, e3, e4, e5, e6⟩ := HIFF.out.1 hok
    subst e1 e6
    have d2 : inR (ld : Int) 2 4 = true := inR_true.2 (by omega)
    have d3 : ((lk : Int) + 1 != (ld : Int)) = false := by simp; omega
    have e4a : lk + 1 ≤ ld := by omega
    have e4b : ld ≤ lk + 1 := by omega
    clear hok e4
    go_upto_region 13 with (first
      | (go_at_call 16; (with_reducible refine (in_any _ _ _ _).mono ?_); rintro e w' ⟨rfl, rfl⟩)
      | (go_at_call 51; (with_reducible refine HEW.out.mono ?_); rintro e' w1 ⟨rfl, BE⟩))
    have HC := Lib.hid fun wr (ht : Turn (· = sb) w1 wr) => (by
      have b0 : wr.heap[w.heap.size]? = _ := (ht.block _ (by have := BE.size; have := ht2.size; have := (Array.getElem?_eq_some_iff.1 k0).1; omega) (by omega)).trans ((BE.block _ (Array.getElem?_eq_some_iff.1 k0).1).trans k0)
      have b1 : wr.heap[w.heap.size + 1]? = _ := (ht.block _ (by have := BE.size; have := (Array.getElem?_eq_some_iff.1 k1).1; omega) (by omega)).trans ((BE.block _ (Array.getElem?_eq_some_iff.1 k1).1).trans k1)
      simp [World.cell?, b0, b1] :
      (wr.cell? ⟨w.heap.size, 0, none⟩ = some (.slice (some ⟨nb, noff, none⟩) t.nodes.length c) ∧ wr.cell? ⟨w.heap.size, 1, none⟩ = some (.int .i64 t.root)) ∧ wr.cell? ⟨w.heap.size + 1, 2, none⟩ = some (.slice ak lk nk) ∧ wr.cell? ⟨w.heap.size + 1, 3, none⟩ = some (.slice ad ld ndd))
    have HB := Lib.hid fun wr (ht : Turn (· = sb) w1 wr) => (Turn.below (B := w0.heap.size) ht (hb2.trans (BE.mono (by have := hb2.size; omega))) (by have := hb2.size; have := BE.size; omega) (fun i hi => by omega) : Below w0.heap.size w0 wr)
    have HT := Lib.hid fun wr (ht : Turn (· = sb) w1 wr) => ((ht2.trans (Turn.of BE (Nat.le_refl _))).trans ht : Turn (· = sb) w wr)
    have hs1 : SeenAt w1 sb t.nodes.length ((j : Int) :: S) := sn2.turn (X := fun _ => False) (Turn.of BE (Nat.le_refl _)) (fun h => h)
    clear q0 x0 x1 x2 x3 x4 k0 k1 hb2 sn2 ht2 BE HEW HNO HYES HIFF hsl
    go_wp2_with fail
    go_loopg [14, 15, 16] ld (fun g a fr i wr => ∃ (k : Nat) (D F : Int) (S' : List Int), k ≤ ld ∧ g = ld - k ∧ i = .int .i64 k ∧ a = .int .i64 D ∧ fr = .int .i64 F ∧ 0 ≤ D ∧ lo ≤ F ∧ Hid (k < ld → F = x.from lo k) ∧
      Hid (heightR t (f + 1) (j : Int) lo hi S = kidsR (fun k a b s => heightR t f k a b s) x lo hi (x.kids.drop k) k (D, S')) ∧ Turn (· = sb) w1 wr ∧ SeenAt wr sb t.nodes.length S')
    case atStart => exact ⟨0, 0, lo, (j : Int) :: S, Nat.zero_le _, rfl, rfl, rfl, rfl, Int.le_refl _, Int.le_refl _, Lib.hid (fun _ => by simp [Nd.from]), Lib.hid (by rw [HR.out]; rfl), Turn.refl _ _, hs1⟩
    case round =>
      obtain ⟨k, D, F, S', hk, rfl, rfl, rfl, rfl, hD0, hF0, HF, HREC, ht, hs'⟩ := hrel
      obtain ⟨⟨p0, p1⟩, p2, p3⟩ := HC.out _ ht
      by_cases hlt' : k < ld
      · obtain ⟨K, hK⟩ : ∃ K, x.kids[k]? = some K := ⟨x.kids[k]'(by rw [HLD.out]; exact hlt'), by simp⟩
        obtain ⟨kb, koff, kcap, ke, hkb, hkc⟩ := HKID.out _ (HB.out _ ht) k K hK
        injection ke with ke1 ke2 ke3
        subst ke1 ke3
        obtain ⟨T, hT⟩ : ∃ T, x.upto hi k = T := ⟨_, rfl⟩
        have HSTEP := Lib.hid (HREC.out.trans (kidsR_step (by rw [HLD.out]; exact hlt')))
        have hKe : x.kids[k]'(by rw [HLD.out]; exact hlt') = K := (List.getElem?_eq_some_iff.1 hK).2
        rw [hKe, HF.out hlt' |>.symm, hT] at HSTEP
        have HF' := Lib.hid (show k + 1 < ld → T = x.from lo (k + 1) from fun h => by
          rw [← hT]
          have hlk : k < x.keys.length := by have := HLK.out; have := HLD.out; omega
          simp only [Nd.upto, Nd.from, Nat.add_sub_cancel]; rw [if_pos hlk, if_neg (by omega)])
        have hLkd : lk ≤ ld := by omega
        have HUP : Hid ((k < lk → x.keys[k]? = some T) ∧ (¬ k < lk → T = hi)) := Lib.hid ⟨fun h => by
            have hlk : k < x.keys.length := by have := HLK.out; omega
            rw [← hT]; simp [Nd.upto, hlk], fun h => by
            have hlk : ¬ k < x.keys.length := by have := HLK.out; omega
            rw [← hT]; simp [Nd.upto, hlk]⟩
        clear hK hT hKe
        go_upto_if 140 with (fail)
        go_cut [17] (fun v wx => v = .int .i64 T ∧ wr = wx)
        case first =>
          by_cases hk2 : k < lk
          · obtain ⟨b2, off2, cap2, e2, hb2', hc2⟩ := HKEY.out _ (HB.out _ ht) k T (HUP.out.1 hk2)
            injection e2 with f1 f2 f3
            subst f1 f3
            clear f2 ke2
            go_wp2
            go_meet
            exact ⟨rfl, rfl⟩
          · have HTE := Lib.hid (HUP.out.2 hk2)
            clear ke2
            go_wp2
            go_meet
            exact ⟨by rw [HTE.out], rfl⟩
        case rest =>
          obtain ⟨rfl, rfl⟩ := hcut
          by_cases g1 : lo ≤ T ∧ T ≤ hi
          · have d5 : inR T lo hi = true := inR_true.2 g1
            have HD1 := Lib.hid (show d + 1 = 13 - f by have := HD0.out; omega)
            have g1a : 0 ≤ T := by omega
            have g1b : T ≤ 9223372036854775807 := by omega
            have g1c : lo ≤ T := g1.1
            have hwd : IntKind.i64.wrap (d + 1) = d + 1 := IntWalk.i64_in _ (by omega)
            have HB0 := Lib.hid (HB.out _ ht)
            have hix := fun w => idx_int (ab := kb) (aoff := koff) (n := ld) (cap := ndd) (show (k : Int) = ((k : Nat) : Int) by rfl) hlt' w
            cases hR : heightR t f K F T S' with
            | none =>
              have HRN := Lib.hid (show heightR t (f + 1) (j : Int) lo hi S = none by rw [HSTEP.out, if_pos g1]; simp only [hR])
              have HCALL := Lib.hid (HIH.out K F T (d + 1) S' wr.drew cap HD1.out HB0.out.drew (hs'.turn (X := fun _ => False) (Turn.refl _ _).drew (fun h => h)) g1b (by omega))
              rw [hR] at HCALL
              clear hR g1
              go_upto_region 23 with ((go_at_call 16; (with_reducible refine (in_any _ _ _ _).mono ?_); rintro e w' ⟨rfl, rfl⟩))
              refine wp_region_still_tail 11 (by kernel_rfl) (by kernel_rfl) ?_
              (simp only [List.take_succ_cons, List.take_zero, List.drop_succ_cons, List.drop_zero]; (repeat ((with_reducible refine wpStill_step (fun K hK => ?_)); go_simp; (with_reducible refine hK _ ?_); clear hK K)); (with_reducible refine wpStill_nil ?_))
              change wpList _ _ _ _ _ wr.drew
              go_wp2_with ((go_at_call 43; (with_reducible refine HCALL.out.mono ?_); rintro e w2 ⟨ht2, rfl⟩))
              go_ret
              rw [HRN.out]
              exact post_none ((HT.out _ ht).trans ((Turn.refl _ _).drew.trans ht2)) rfl
            | some p =>
              obtain ⟨h, S2⟩ := p
              have hpos := heightR_pos (by omega) hR
              obtain ⟨hp1, hp2, hp3⟩ := hpos
              have HST := Lib.hid (show heightR t (f + 1) (j : Int) lo hi S = if D = 0 ∨ h = D then kidsR (fun k a b s => heightR t f k a b s) x lo hi (x.kids.drop (k + 1)) (k + 1) (h, S2) else none by rw [HSTEP.out, if_pos g1]; simp only [hR])
              have HCALL := Lib.hid (HIH.out K F T (d + 1) S' wr.drew cap HD1.out HB0.out.drew (hs'.turn (X := fun _ => False) (Turn.refl _ _).drew (fun h => h)) g1b (by omega))
              rw [hR] at HCALL
              have hz : (h == 0) = false := by simp; omega
              clear hR g1
              by_cases g2 : D = 0 ∨ h = D
              · have HST' := Lib.hid (HST.out.trans (if_pos g2))
                have hall : D = 0 ∨ (D ≠ 0 ∧ h = D) := by omega
                clear g2 HST
                rcases hall with rfl | ⟨hall, rfl⟩
                · go_upto_region 23 with ((go_at_call 16; (with_reducible refine (in_any _ _ _ _).mono ?_); rintro e w' ⟨rfl, rfl⟩))
                  refine wp_region_still_tail 11 (by kernel_rfl) (by kernel_rfl) ?_
                  (simp only [List.take_succ_cons, List.take_zero, List.drop_succ_cons, List.drop_zero]; (repeat ((with_reducible refine wpStill_step (fun K hK => ?_)); go_simp; (with_reducible refine hK _ ?_); clear hK K)); (with_reducible refine wpStill_nil ?_))
                  change wpList _ _ _ _ _ wr.drew
                  clear hix hwd
                  go_wp2_with ((go_at_call 43; (with_reducible refine HCALL.out.mono ?_); rintro e w2 ⟨ht2, rfl, hs2⟩))
                  go_roundg (ld - (k + 1))
                  case measure => omega
                  case rel => exact ⟨k + 1, h, T, S2, by omega, rfl, by go_num, rfl, rfl, by omega, g1c, HF', HST', ht.trans ((Turn.refl _ _).drew.trans ht2), hs2⟩
                · have hall' : 0 < h := by omega
                  go_upto_region 23 with ((go_at_call 16; (with_reducible refine (in_any _ _ _ _).mono ?_); rintro e w' ⟨rfl, rfl⟩))
                  refine wp_region_still_tail 11 (by kernel_rfl) (by kernel_rfl) ?_
                  (simp only [List.take_succ_cons, List.take_zero, List.drop_succ_cons, List.drop_zero]; (repeat ((with_reducible refine wpStill_step (fun K hK => ?_)); go_simp; (with_reducible refine hK _ ?_); clear hK K)); (with_reducible refine wpStill_nil ?_))
                  change wpList _ _ _ _ _ wr.drew
                  clear hix hwd
                  go_wp2_with ((go_at_call 43; (with_reducible refine HCALL.out.mono ?_); rintro e w2 ⟨ht2, rfl, hs2⟩))
                  go_roundg (ld - (k + 1))
                  case measure => omega
                  case rel => exact ⟨k + 1, h, T, S2, by omega, rfl, by go_num, rfl, rfl, by omega, g1c, HF', HST', ht.trans ((Turn.refl _ _).drew.trans ht2), hs2⟩
              · have HST' := Lib.hid (HST.out.trans (if_neg g2))
                have hall : 0 < D := by omega
                have hne : (h != D) = true := by simp; omega
                clear g2 HST
                go_upto_region 23 with ((go_at_call 16; (with_reducible refine (in_any _ _ _ _).mono ?_); rintro e w' ⟨rfl, rfl⟩))
                refine wp_region_still_tail 11 (by kernel_rfl) (by kernel_rfl) ?_
                (simp only [List.take_succ_cons, List.take_zero, List.drop_succ_cons, List.drop_zero]; (repeat ((with_reducible refine wpStill_step (fun K hK => ?_)); go_simp; (with_reducible refine hK _ ?_); clear hK K)); (with_reducible refine wpStill_nil ?_))
                change wpList _ _ _ _ _ wr.drew
                clear hix hwd
                go_wp2_with ((go_at_call 43; (with_reducible refine HCALL.out.mono ?_); rintro e w2 ⟨ht2, rfl, hs2⟩))
                go_ret
                rw [HST'.out]
                exact post_none ((HT.out _ ht).trans ((Turn.refl _ _).drew.trans ht2)) rfl
          · have d5 : inR T lo hi = false := inR_false.2 (by omega)
            have HRN := Lib.hid (show heightR t (f + 1) (j : Int) lo hi S = none by rw [HSTEP.out, if_neg g1])
            clear g1
            go_wp2_with ((go_at_call 16; (with_reducible refine (in_any _ _ _ _).mono ?_); rintro e w' ⟨rfl, rfl⟩))
            go_ret
            rw [HRN.out]
            exact post_none (HT.out _ ht) rfl
      · have HRES := Lib.hid (HREC.out.trans (kidsR_end (by rw [HLD.out]; omega)))
        go_wp2
        go_ret
        rw [HRES.out]
        exact post_some (HT.out _ ht) rfl hs'
  · have HR := Lib.hid (HNO.out hok)
    have hiff := HIFF.out
    by_cases g1 : le = 0
    · subst g1
      by_cases g2 : 2 ≤ ld ∧ ld ≤ 4
      · have d2 : inR (ld : Int) 2 4 = true := inR_true.2 (by omega)
        by_cases g3 : lk + 1 = ld
        · have d3 : ((lk : Int) + 1 != (ld : Int)) = false := by simp; omega
          by_cases g4 : lb ≤ 8
          · have hbe : be = false := by
              cases be with
              | false => rfl
              | true => exact absurd (hiff.2 ⟨rfl, g2.1, g2.2, g3, g4, rfl⟩) hok
            subst hbe
            clear hok hiff g2 g3 HIFF
            go_wp2_with (first
              | (go_at_call 16; (with_reducible refine (in_any _ _ _ _).mono ?_); rintro e w' ⟨rfl, rfl⟩)
              | (go_at_call 51; (with_reducible refine HEW.out.mono ?_); rintro e' w1 ⟨rfl, BE⟩))
            go_ret
            rw [HR.out]
            exact post_none (ht2.trans (Turn.of BE (Nat.le_refl _))) rfl
          · have g4' : 8 < lb := by omega
            clear hok hiff g2 g3 g4 HIFF
            go_wp2_with ((go_at_call 16; (with_reducible refine (in_any _ _ _ _).mono ?_); rintro e w' ⟨rfl, rfl⟩))
            go_ret
            rw [HR.out]
            exact post_none ht2 rfl
        · have d3 : ((lk : Int) + 1 != (ld : Int)) = true := by simp; omega
          clear hok hiff g2 g3 HIFF
          go_wp2_with ((go_at_call 16; (with_reducible refine (in_any _ _ _ _).mono ?_); rintro e w' ⟨rfl, rfl⟩))
          go_ret
          rw [HR.out]
          exact post_none ht2 rfl
      · have d2 : inR (ld : Int) 2 4 = false := inR_false.2 (by omega)
        clear hok hiff g2 HIFF
        go_wp2_with ((go_at_call 16; (with_reducible refine (in_any _ _ _ _).mono ?_); rintro e w' ⟨rfl, rfl⟩))
        go_ret
        rw [HR.out]
        exact post_none ht2 rfl
    · have g1' : 0 < le := by omega
      clear hok hiff g1 HIFF
      go_wp2
      go_ret
      rw [HR.out]
      exact post_none ht2 rfl

/-- 'height', whatever the node. -/
theorem height_any {t : Tr} {nv : Value} {w0 : World} (h0 : NodesAt w0 nv t.nodes) {sb : Nat} (hsb : w0.heap.size ≤ sb) : ∀ (f : Nat), f ≤ 12 → ∀ (n lo hi d : Int) (S : List Int) (w : World) (cap : Nat), d = 13 - f → Below w0.heap.size w0 w → SeenAt w sb t.nodes.length S → hi ≤ 9223372036854775807 → 0 ≤ lo →
    Calls Try.prog 43 #[.agg #[nv, .int .i64 t.root], .int .i64 n, .int .i64 lo, .int .i64 hi, .int .i64 d, .slice (some ⟨sb, 0, none⟩) t.nodes.length cap] w (HeightPost w0 sb t.nodes.length (heightR t f n lo hi S) w) := by
  intro f
  induction f with
  | zero => intro _ n lo hi d S w cap hd hb hs hhi hlo; exact height_bad h0 (cap := cap) (N := t.nodes.length) hd (by omega) (.inl rfl)
  | succ f ih =>
    intro hf n lo hi d S w cap hd hb hs hhi hlo
    cases hx : t.at? n with
    | none => exact height_bad h0 (cap := cap) (N := t.nodes.length) hd hf (.inr hx)
    | some x =>
      by_cases hbad : n ∈ S ∨ ¬ lo < hi
      · exact height_seen h0 hb hsb hs (by omega) (by omega) hx hbad
      · have h1 : n ∉ S := fun h => hbad (.inl h)
        have h2 : lo < hi := Classical.byContradiction fun h => hbad (.inr h)
        cases hl : x.leaf with
        | true => exact height_leaf h0 hb hsb hs (by omega) (by omega) (by omega) hhi hlo hx h1 h2 hl
        | false => exact height_inner h0 hb hsb hs (by omega) (by omega) (fun n lo hi d S w cap => ih (by omega) n lo hi d S w cap) hhi hlo hx h1 h2 hl
end Go.Proofs.Ytggcinmjmkfboaa
