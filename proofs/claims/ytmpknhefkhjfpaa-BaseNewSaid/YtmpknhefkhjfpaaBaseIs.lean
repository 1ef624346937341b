/- The walk of the document's BaseIs: is a base the one with these names, this floor, and these points known? -/
import Derived.Test.YtmpknhefkhjfpaaBaseMay
namespace Go.Proofs.Ytmpknhefkhjfpaa
open Go.RowKit

noncomputable def baseIs (b : Ba) (names : List ByteArray) (floor : Int) (l : List Ent) : Bool := baseMay b && decide (b.floor = floor) && decide (b.names = names) && decide (bookR b = some l)
theorem baseIs_no1 {b : Ba} {ns : List ByteArray} {fl : Int} {l : List Ent} (h : baseMay b = false) : baseIs b ns fl l = false := by simp [baseIs, h]
theorem baseIs_no2 {b : Ba} {ns : List ByteArray} {fl : Int} {l : List Ent} (h : b.floor ≠ fl) : baseIs b ns fl l = false := by simp [baseIs, h]
theorem baseIs_no3 {b : Ba} {ns : List ByteArray} {fl : Int} {l : List Ent} (h : b.names ≠ ns) : baseIs b ns fl l = false := by simp [baseIs, h]
theorem baseIs_eq {b : Ba} {ns : List ByteArray} {fl : Int} {l m : List Ent} (h1 : baseMay b = true) (h2 : b.floor = fl) (h3 : b.names = ns) (h4 : bookR b = some m) : baseIs b ns fl l = decide (m = l) := by simp [baseIs, h1, h2, h3, h4]

set_option maxRecDepth 100000 in
set_option maxHeartbeats 2000000 in
theorem baseIs_any {v nv lv : Value} {b : Ba} {ns : List ByteArray} {fl : Int} {l : List Ent} {w : World} (h : BaseAt w v b) (hst : ∀ s ∈ b.names, s.size ≤ 140737488351232) (hns : StrsAt w nv ns) (hl : EntsAt w lv l) :
    Calls Try.prog 15 #[v, nv, .int .i64 fl, lv] w fun e w' => e = .returned (.bool (baseIs b ns fl l)) ∧ Below w.heap.size w w' := by
  obtain ⟨sa, sc, g0, l0, p0, g1, l1, p1, g2, l2, p2, rfl, hn, hnames, T0, T1, T2⟩ := h.open
  obtain ⟨na, nc, rfl⟩ := hns.isSlice
  obtain ⟨la, lc, rfl⟩ := hl.isSlice
  have hnl := hns.len (by decide)
  obtain ⟨W0, hW0⟩ : ∃ W0, W0 = w.alloc (.cells (baCells sa b.names.length sc g0 l0 p0 g1 l1 p1 g2 l2 p2 b) 31) := ⟨_, rfl⟩
  have hb0 : Below w.heap.size w W0 := by rw [hW0]; exact (by repeat (first | with_reducible exact Below.refl _ _ | with_reducible assumption | with_reducible refine below_dn ?_ _ | with_reducible refine Below.drew ?_ | with_reducible refine Below.alloc ?_ (by first | omega | (simp; done) | (simp; omega) | (simp [drew_size]; done) | (simp [drew_size]; omega)) _ | with_reducible refine Below.setCell ?_ (by first | omega | (simp; done) | (simp; omega) | (simp [drew_size]; done) | (simp [drew_size]; omega)) _))
  have hz0 : W0.heap.size = w.heap.size + 1 := by rw [hW0]; simp
  have k0 : W0.heap[w.heap.size]? = some (.cells (baCells sa b.names.length sc g0 l0 p0 g1 l1 p1 g2 l2 p2 b) 31) := by rw [hW0]; exact heap_new _ _ rfl
  have HX := Lib.hid fun w' (hb : Below W0.heap.size W0 w') => (by
    have b0 : w'.heap[w.heap.size]? = _ := (hb.block _ (by omega)).trans k0
    simp [World.cell?, b0] :
    w'.cell? ⟨w.heap.size, 0, none⟩ = some (.slice sa b.names.length sc) ∧ w'.cell? ⟨w.heap.size, 1, none⟩ = some (.slice g0 l0 p0) ∧ w'.cell? ⟨w.heap.size, 2, none⟩ = some (.int .i64 b.t0.root) ∧ w'.cell? ⟨w.heap.size, 3, none⟩ = some (.slice g1 l1 p1) ∧ w'.cell? ⟨w.heap.size, 4, none⟩ = some (.int .i64 b.t1.root) ∧ w'.cell? ⟨w.heap.size, 5, none⟩ = some (.slice g2 l2 p2) ∧ w'.cell? ⟨w.heap.size, 6, none⟩ = some (.int .i64 b.t2.root) ∧ w'.cell? ⟨w.heap.size, 7, none⟩ = some (.int .i64 b.floor))
  have HB := Lib.hid fun w' (hb : Below W0.heap.size W0 w') => (Below.trans' hb0 hb hb0.size : Below w.heap.size w w')
  have HBA := Lib.hid h
  have HMAY := Lib.hid (baseMay_any (h.below hb0) hst)
  have HSN := Lib.hid hnames
  have HNS := Lib.hid hns
  have HL := Lib.hid hl
  obtain ⟨x0, x1, x2, x3, x4, x5, x6, x7⟩ := HX.out W0 (Below.refl _ _)
  clear T0 T1 T2 h hnames hst hns hl
  go_enter Try.func15, Try.ntmps15
  go_upto_region 1 with (fail)
  rw [← hW0]
  clear hW0 k0
  cases hm : baseMay b with
  | false =>
    have HNO := Lib.hid (baseIs_no1 (ns := ns) (fl := fl) (l := l) hm)
    rw [hm] at HMAY
    clear hm
    go_wp2_with ((go_at_call 31; (with_reducible refine HMAY.out.mono ?_); rintro e w1 ⟨rfl, hb1⟩; obtain ⟨x0, x1, x2, x3, x4, x5, x6, x7⟩ := HX.out _ hb1))
    go_ret
    exact ⟨ret_bool HNO.out.symm, HB.out _ hb1⟩
  | true =>
    have HM := Lib.hid hm
    rw [hm] at HMAY
    clear hm
    by_cases i1 : b.floor = fl
    · have e1 : (b.floor != fl) = false := by simp [i1]
      have HFL := Lib.hid i1
      by_cases i2 : b.names.length = ns.length
      · have e2 : ((b.names.length : Int) != (ns.length : Int)) = false := by simp [i2]
        have HLN := Lib.hid i2
        have hle : ns.length ≤ b.names.length := by omega
        clear i1 i2
        go_wp2_with ((go_at_call 31; (with_reducible refine HMAY.out.mono ?_); rintro e w1 ⟨rfl, hb1⟩; obtain ⟨x0', x1', x2', x3', x4', x5', x6', x7'⟩ := HX.out _ hb1))
        clear x0 x1 x2 x3 x4 x5 x6 x7 x0' x1' x2' x3' x4' x5' x6' x7'
        go_loopg [9] ns.length (fun g i wr => ∃ k : Nat, k ≤ ns.length ∧ g = ns.length - k ∧ i = .int .i64 k ∧ Hid (ns.take k = b.names.take k) ∧ Below W0.heap.size W0 wr)
        case atStart => exact ⟨0, Nat.zero_le _, rfl, rfl, Lib.hid rfl, hb1⟩
        case round =>
          obtain ⟨k, hk, rfl, rfl, HE, hb⟩ := hrel
          obtain ⟨x0, x1, x2, x3, x4, x5, x6, x7⟩ := HX.out _ hb
          by_cases hlt : k < ns.length
          · obtain ⟨_, _, va, -, -, -, -, a5⟩ := HSN.out
            obtain ⟨_, _, vb, -, -, -, -, b5⟩ := HNS.out
            have hltb : k < b.names.length := by omega
            obtain ⟨ab, aoff, ha, abb, ac⟩ := a5 (by omega)
            obtain ⟨bb, boff, hb', bbb, bc⟩ := b5 (by omega)
            injection va with va1 _ va3
            injection vb with vb1 _ vb3
            subst va1 va3 vb1 vb3 ha hb'
            have e0 := strs_cell (HB.out _ hb) abb ac hltb
            have e3 := strs_cell (HB.out _ hb) bbb bc hlt
            obtain ⟨s, hs⟩ : ∃ s, b.names[k] = s := ⟨_, rfl⟩
            obtain ⟨t, ht⟩ : ∃ t, ns[k] = t := ⟨_, rfl⟩
            rw [hs] at e0
            rw [ht] at e3
            have HS := Lib.hid hs
            have HTT := Lib.hid ht
            have hix := fun w' => idx_str (ab := ab) (aoff := aoff) (n := b.names.length) (cap := sc) (show (k : Int) = ((k : Nat) : Int) by rfl) hltb w'
            have hix2 := fun w' => idx_str (ab := bb) (aoff := boff) (n := ns.length) (cap := nc) (show (k : Int) = ((k : Nat) : Int) by rfl) hlt w'
            have hse := str_eq t s
            clear hs ht a5 b5 ac bc
            by_cases hts : t = s
            · have HE2 := Lib.hid (take_eq_step HE.out hlt hltb (by rw [HS.out, HTT.out]; exact hts))
              have hsd : decide (t = s) = true := by simp [hts]
              rw [hsd] at hse
              have hne : (t.toList != s.toList) = false := by simp only [bne, hse]; rfl
              clear hts hsd
              go_wp2_with fail
              go_quiet (fail)
              go_wp2
              go_roundg (ns.length - (k + 1))
              case measure => omega
              case rel => exact ⟨k + 1, by omega, rfl, by go_num, HE2, (by repeat (first | with_reducible exact Below.refl _ _ | with_reducible assumption | with_reducible refine below_dn ?_ _ | with_reducible refine Below.drew ?_ | with_reducible refine Below.alloc ?_ (by first | omega | (simp; done) | (simp; omega) | (simp [drew_size]; done) | (simp [drew_size]; omega)) _ | with_reducible refine Below.setCell ?_ (by first | omega | (simp; done) | (simp; omega) | (simp [drew_size]; done) | (simp [drew_size]; omega)) _))⟩
            · have HNO := Lib.hid (baseIs_no3 (b := b) (ns := ns) (fl := fl) (l := l) (fun h => by subst h; exact hts (HTT.out.symm.trans HS.out)))
              have hsd : decide (t = s) = false := by simp [hts]
              rw [hsd] at hse
              have hne : (t.toList != s.toList) = true := by simp only [bne, hse]; rfl
              clear hts hsd
              go_wp2_with fail
              go_quiet (fail)
              go_wp2
              go_ret
              exact ⟨ret_bool HNO.out.symm, by have := HB.out _ hb; exact (by repeat (first | with_reducible exact Below.refl _ _ | with_reducible assumption | with_reducible refine below_dn ?_ _ | with_reducible refine Below.drew ?_ | with_reducible refine Below.alloc ?_ (by first | omega | (simp; done) | (simp; omega) | (simp [drew_size]; done) | (simp [drew_size]; omega)) _ | with_reducible refine Below.setCell ?_ (by first | omega | (simp; done) | (simp; omega) | (simp [drew_size]; done) | (simp [drew_size]; omega)) _))⟩
          · have HNN := Lib.hid (show b.names = ns by
              have := HE.out
              rw [List.take_of_length_le (by omega), List.take_of_length_le (by have := HLN.out; omega)] at this
              exact this.symm)
            obtain ⟨m, hbk⟩ : ∃ m, bookR b = some m := by obtain ⟨m, e, _⟩ := (baseMay_ok HM.out).trees; exact ⟨m, e⟩
            have HBO := Lib.hid (book_any (HBA.out.below (HB.out _ hb)))
            have HEQ := Lib.hid (baseIs_eq (l := l) HM.out HFL.out HNN.out hbk)
            have hml : m.length ≤ 50000 := (bookR_good hbk).2.2.2
            have HLB := Lib.hid (HL.out.below (HB.out _ hb) (Nat.le_refl _))
            rw [hbk] at HBO
            clear hbk
            go_wp2_with (first
              | (go_at_call 32; (with_reducible refine HBO.out.mono ?_); rintro e w5 ⟨hb5, v5, rfl, ho5⟩; have hb5' := Below.trans' hb hb5 hb.size; obtain ⟨s5, c5, rfl⟩ := ho5.isSlice; have HSE := Lib.hid (refSameEntries_any (ho5.at (by omega)) (HLB.out.below hb5 (Nat.le_refl _))))
              | (go_at_call 33; (with_reducible refine HSE.out.mono ?_); rintro e w6 ⟨rfl, hb6⟩; have hb6' := Below.trans' hb5' hb6 hb5'.size))
            go_ret
            exact ⟨ret_bool HEQ.out.symm, HB.out _ hb6'⟩
      · have e2 : ((b.names.length : Int) != (ns.length : Int)) = true := by simp; omega
        have HNO := Lib.hid (baseIs_no3 (b := b) (ns := ns) (fl := fl) (l := l) (fun h => i2 (by rw [h])))
        clear i1 i2
        go_wp2_with ((go_at_call 31; (with_reducible refine HMAY.out.mono ?_); rintro e w1 ⟨rfl, hb1⟩; obtain ⟨x0', x1', x2', x3', x4', x5', x6', x7'⟩ := HX.out _ hb1))
        go_ret
        exact ⟨ret_bool HNO.out.symm, HB.out _ hb1⟩
    · have e1 : (b.floor != fl) = true := by simp [i1]
      have HNO := Lib.hid (baseIs_no2 (b := b) (ns := ns) (fl := fl) (l := l) i1)
      clear i1
      go_wp2_with ((go_at_call 31; (with_reducible refine HMAY.out.mono ?_); rintro e w1 ⟨rfl, hb1⟩; obtain ⟨x0', x1', x2', x3', x4', x5', x6', x7'⟩ := HX.out _ hb1))
      go_ret
      exact ⟨ret_bool HNO.out.symm, HB.out _ hb1⟩
end Go.Proofs.Ytmpknhefkhjfpaa
