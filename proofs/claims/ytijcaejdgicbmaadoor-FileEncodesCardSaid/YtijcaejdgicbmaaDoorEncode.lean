/- The walk of file.Encode. -/
import Derived.Test.YtijcaejdgicbmaaDoorBG
import Derived.Test.YtijcaejdgicbmaaDoorProCheck
import Derived.Test.YtijcaejdgicbmaaDoorRG
namespace Go.Proofs.YtijcaejdgicbmaaDoor
open Go.RowKit

def EncPost (B : Nat) (w : World) (bs : List Int) (E : Int) (e : Ending) (w' : World) : Prop := Below B w w' ∧ ∃ v, e = .returned (.tuple #[v, .int .i64 E]) ∧ OwnBytes B w' v bs
theorem namesL_step {ns : List ByteArray} {k : Nat} (hk : k < ns.length) : namesL (ns.take (k + 1)) = namesL (ns.take k) ++ (sevensL ns[k].size ++ nums ns[k]) := by
  unfold namesL; rw [List.take_succ_eq_append_getElem hk, List.flatMap_append, List.flatMap_singleton]
theorem entsL_step {l : List Ent} {k : Nat} {last : Int} (hk : k < l.length) : entsL last (l.drop k) = entL last l[k] ++ entsL l[k].key (l.drop (k + 1)) := by
  rw [List.drop_eq_getElem_cons hk]; rfl
theorem encE_may {b : Ba} (h : baseMay b = false) : encE b = 7 ∧ encL b = [] := by unfold encE encL; rw [if_pos h, if_pos h]; exact ⟨rfl, rfl⟩
theorem encE_many {b : Ba} {l : List Ent} (h : baseMay b = true) (hl : bookR b = some l) (h2 : 10000 < l.length) : encE b = 1 ∧ encL b = [] := by
  unfold encE encL; rw [if_neg (by rw [h]; decide), if_neg (by rw [h]; decide), hl]; simp only; rw [if_pos h2, if_pos h2]; exact ⟨rfl, rfl⟩
theorem encE_long {b : Ba} {l : List Ent} (h : baseMay b = true) (hl : bookR b = some l) (h2 : ¬ 10000 < l.length) (h3 : 200000 < (bytesL b l).length + 4) : encE b = 1 ∧ encL b = [] := by
  unfold encE encL; rw [if_neg (by rw [h]; decide), if_neg (by rw [h]; decide), hl]; simp only; rw [if_neg h2, if_neg h2, if_pos h3, if_pos h3]; exact ⟨rfl, rfl⟩
theorem encE_ok {b : Ba} {l : List Ent} (h : baseMay b = true) (hl : bookR b = some l) (h2 : ¬ 10000 < l.length) (h3 : ¬ 200000 < (bytesL b l).length + 4) : encE b = 0 ∧ encL b = bytesL b l ++ sealL (bytesL b l) := by
  unfold encE encL; rw [if_neg (by rw [h]; decide), if_neg (by rw [h]; decide), hl]; simp only; rw [if_neg h2, if_neg h2, if_neg h3, if_neg h3]; exact ⟨rfl, rfl⟩
theorem name_small {b : Ba} (h : baseMay b = true) {k : Nat} (hk : k < b.names.length) : b.names[k].size ≤ 10 := by
  have := ((baseMay_ok h).names k hk).1
  simp [nameMay] at this
  omega
theorem names_small {b : Ba} (h : baseMay b = true) : ∀ s ∈ b.names, s.size ≤ 10 := fun s hs => by
  obtain ⟨k, hk, rfl⟩ := List.getElem_of_mem hs
  exact name_small h hk

set_option maxRecDepth 100000 in
set_option maxHeartbeats 8000000 in
theorem encode_any {v : Value} {b : Ba} {w : World} (h : BaseAt w v b) (hst : ∀ s ∈ b.names, s.size ≤ 140737488351232) (hsz : SizesAt w) :
    Calls Tryd.prog 14 #[v] w (EncPost w.heap.size w (encL b) (encE b)) := by
  have HCK := Lib.hid fun w' (hb : Below w.heap.size w w') => baseCheck_any (h.below hb) hst (hsz.below hb)
  obtain ⟨sa, sc, g0, l0, p0, g1, l1, p1, g2, l2, p2, rfl, hn, hnames, T0, T1, T2⟩ := h.open
  obtain ⟨W0, hW0⟩ : ∃ W0, W0 = w.alloc (.cells (baCells sa b.names.length sc g0 l0 p0 g1 l1 p1 g2 l2 p2 b) 28) := ⟨_, rfl⟩
  have hb0 : Below w.heap.size w W0 := by rw [hW0]; exact (by repeat (first | with_reducible exact Below.refl _ _ | with_reducible assumption | with_reducible refine below_dn ?_ _ | with_reducible refine Below.drew ?_ | with_reducible refine Below.alloc ?_ (by first | omega | (simp; done) | (simp; omega) | (simp [drew_size]; done) | (simp [drew_size]; omega)) _ | with_reducible refine Below.setCell ?_ (by first | omega | (simp; done) | (simp; omega) | (simp [drew_size]; done) | (simp [drew_size]; omega)) _))
  have hz0 : W0.heap.size = w.heap.size + 1 := by rw [hW0]; simp
  have k0 : W0.heap[w.heap.size]? = some (.cells (baCells sa b.names.length sc g0 l0 p0 g1 l1 p1 g2 l2 p2 b) 28) := by rw [hW0]; exact heap_new _ _ rfl
  have HX := Lib.hid fun w' (hb : Below W0.heap.size W0 w') => (by
    have b0 : w'.heap[w.heap.size]? = _ := (hb.block _ (by omega)).trans k0
    simp [World.cell?, b0] :
    w'.cell? ⟨w.heap.size, 0, none⟩ = some (.slice sa b.names.length sc) ∧ w'.cell? ⟨w.heap.size, 1, none⟩ = some (.slice g0 l0 p0) ∧ w'.cell? ⟨w.heap.size, 2, none⟩ = some (.int .i64 b.t0.root) ∧ w'.cell? ⟨w.heap.size, 3, none⟩ = some (.slice g1 l1 p1) ∧ w'.cell? ⟨w.heap.size, 4, none⟩ = some (.int .i64 b.t1.root) ∧ w'.cell? ⟨w.heap.size, 5, none⟩ = some (.slice g2 l2 p2) ∧ w'.cell? ⟨w.heap.size, 6, none⟩ = some (.int .i64 b.t2.root) ∧ w'.cell? ⟨w.heap.size, 7, none⟩ = some (.int .i64 b.floor))
  have HB := Lib.hid fun w' (hb : Below W0.heap.size W0 w') => (Below.trans' hb0 hb hb0.size : Below w.heap.size w w')
  obtain ⟨x0, x1, x2, x3, x4, x5, x6, x7⟩ := HX.out W0 (Below.refl _ _)
  have HT0 := Lib.hid fun w' (hb : Below W0.heap.size W0 w') => (all_any (lo := 0) (hi := 1099511627776) (T0 w' (HB.out w' hb))).mono fun e w' hp => AllPost.allT hp
  have HSN := Lib.hid hnames
  clear h hst hsz hnames T0 T1 T2
  go_enter Tryd.func14, Tryd.ntmps14
  go_upto_region 1 with (fail)
  rw [← hW0]
  clear hW0 k0
  cases hmay : baseMay b with
  | false =>
    have hc : checkE b = 7 := checkE_no hmay
    have HR := Lib.hid (encE_may hmay)
    rw [hc] at HCK
    clear hc hmay
    go_wp2_with ((go_at_call 9; (with_reducible refine (HCK.out _ hb0).mono ?_); rintro e w1 ⟨rfl, hb1⟩))
    go_ret2
    rw [HR.out.1, HR.out.2]
    exact ⟨HB.out _ hb1, _, rfl, OwnBytes.nil _ _⟩
  | true =>
    have hc : checkE b = 0 := checkE_yes hmay
    rw [hc] at HCK
    obtain ⟨l, hl, hrise, hg, -⟩ := base_knows hmay
    have hal := (bookR_some hl).1
    rw [hal] at HT0
    have HMAY := Lib.hid hmay
    have HL := Lib.hid hl
    have HRI := Lib.hid hrise
    have HG := Lib.hid hg
    have hll : l.length ≤ 50000 := hg.2.2
    clear hc hmay hl hrise hg hal
    go_upto_region 7 with (first | (go_at_call 9; (with_reducible refine (HCK.out _ hb0).mono ?_); rintro e w1 ⟨rfl, hb1⟩; obtain ⟨x0, x1, x2, x3, x4, x5, x6, x7⟩ := HX.out _ hb1) | (go_at_call 31; (with_reducible refine (HT0.out _ hb1).mono ?_); rintro e w2 ⟨hb2, v2, rfl, ho2⟩; have hb02 := Below.trans' hb1 hb2 hb1.size; obtain ⟨s2, c2, rfl⟩ := ho2.isSlice))
    have hbw2 := HB.out _ hb02
    by_cases hm : 10000 < l.length
    · have hmd : decide ((10000 : Int) < (l.length : Int)) = true := by simp; omega
      have HR := Lib.hid (encE_many HMAY.out HL.out hm)
      clear hm
      go_wp2
      go_ret2
      rw [HR.out.1, HR.out.2]
      exact ⟨hbw2, _, rfl, OwnBytes.nil _ _⟩
    · have hmd : decide ((10000 : Int) < (l.length : Int)) = false := by simp; omega
      have HM := Lib.hid hm
      have HEN := Lib.hid (ho2.at (by omega))
      have HN16 := Lib.hid (baseMay_ok HMAY.out).n16
      have HF0 := Lib.hid (And.intro (baseMay_ok HMAY.out).fl0 (baseMay_ok HMAY.out).fl1)
      have HNS := Lib.hid (names_small HMAY.out)
      clear hm ho2 x0 x1 x2 x3 x4 x5 x6 x7
      obtain ⟨x0, x1, x2, x3, x4, x5, x6, x7⟩ := HX.out _ hb02
      go_upto_region 9 with (fail)
      clear hmd
      obtain ⟨W3, hW3⟩ : ∃ W3, W3 = w2.alloc (.cells #[.int .u8 119, .int .u8 110] 5 (2, 3)) := ⟨_, rfl⟩
      have hb3 : Below w2.heap.size w2 W3 := by rw [hW3]; exact (by repeat (first | with_reducible exact Below.refl _ _ | with_reducible assumption | with_reducible refine below_dn ?_ _ | with_reducible refine Below.drew ?_ | with_reducible refine Below.alloc ?_ (by first | omega | (simp; done) | (simp; omega) | (simp [drew_size]; done) | (simp [drew_size]; omega)) _ | with_reducible refine Below.setCell ?_ (by first | omega | (simp; done) | (simp; omega) | (simp [drew_size]; done) | (simp [drew_size]; omega)) _))
      have hb03 : Below W0.heap.size W0 W3 := Below.trans' hb02 hb3 hb02.size
      have k3 : W3.heap[w2.heap.size]? = some (.cells #[.int .u8 119, .int .u8 110] 5 (2, 3)) := by rw [hW3]; exact heap_new _ _ rfl
      have hz3 : W3.heap.size = w2.heap.size + 1 := by rw [hW3]; simp
      have HN := Lib.hid (number_lit (w := W3) (g := w2.heap.size) b.names.length (by have := HN16.out; omega) k3)
      have HX3 := Lib.hid fun w' (hb : Below W3.heap.size W3 w') => HX.out w' (Below.trans' hb03 hb hb03.size)
      have HB3 := Lib.hid fun w' (hb : Below W3.heap.size W3 w') => HB.out w' (Below.trans' hb03 hb hb03.size)
      have HB2 := Lib.hid fun w' (hb : Below W3.heap.size W3 w') => (Below.trans' hb3 hb hb3.size : Below w2.heap.size w2 w')
      have hcv : (convert 37 37 (.slice (some ⟨w2.heap.size, 0, none⟩) 2 2)).run Tryd.prog (w2.alloc (.cells #[.int .u8 119, .int .u8 110] 5)) = .ok (.slice (some ⟨w2.heap.size, 0, none⟩) 2 2) W3 := by
        rw [hW3]; exact Joins.run_convert_bytes_const_at (P := Tryd.prog) w2 37 5 #[.int .u8 119, .int .u8 110] 2 2 w2.heap.size rfl Tryd.underlying37 Tryd.underlying5
      obtain ⟨x0', -⟩ := HX3.out _ (Below.refl _ _)
      clear hW3 k3
      go_upto_region 10 with ((go_at_call 45; (with_reducible refine HN.out.mono ?_); rintro e w4 ⟨hb4, v4, rfl, ho4⟩))
      clear x0' hcv x0 x1 x2 x3 x4 x5 x6 x7
      obtain ⟨x0, x1, x2, x3, x4, x5, x6, x7⟩ := HX3.out _ hb4
      obtain ⟨P0, hP0⟩ : ∃ P0, [119, 110] ++ sevensL b.names.length = P0 := ⟨_, rfl⟩
      have HP0 := Lib.hid hP0
      have hl0 : P0.length ≤ 11 := by rw [← hP0, List.length_append]; have := sevens_nine (n := b.names.length) (by have := HN16.out; omega); simp; omega
      rw [hP0] at ho4
      clear hP0
      obtain ⟨so4, sc4, rfl⟩ := ho4.isSlice
      go_upto_region 11 with (fail)
      go_loopg [7, 43] b.names.length (fun g bv i wr => ∃ k : Nat, k ≤ b.names.length ∧ g = b.names.length - k ∧ i = .int .i64 k ∧ OwnBytes W3.heap.size wr bv (P0 ++ namesL (b.names.take k)) ∧ Below W3.heap.size W3 wr)
      case atStart => exact ⟨0, Nat.zero_le _, rfl, rfl, by simpa [namesL] using ho4, hb4⟩
      case round =>
        clear x0 x1 x2 x3 x4 x5 x6 x7 ho4 hb4
        obtain ⟨k, hk, rfl, rfl, ho, hb⟩ := hrel
        have hsz := hb.size
        obtain ⟨P, hP⟩ : ∃ P, P0 ++ namesL (b.names.take k) = P := ⟨_, rfl⟩
        rw [hP] at ho
        obtain ⟨so, sc', rfl⟩ := ho.isSlice
        obtain ⟨x0, -, -, -, -, -, -, x7⟩ := HX3.out _ hb
        have hln : P.length ≤ 400 := by
          have h1 := names_len (ns := b.names.take k) fun s hs => HNS.out s (List.mem_of_mem_take hs)
          rw [List.length_take] at h1
          have := HN16.out
          rw [← hP, List.length_append]; omega
        have HP := Lib.hid hP
        clear hP
        by_cases hlt : k < b.names.length
        · obtain ⟨_, _, va, -, -, -, -, a5⟩ := HSN.out
          obtain ⟨ab, aoff, hA, abb, ac⟩ := a5 (by omega)
          injection va with va1 _ va3
          subst va1 va3 hA
          have e0 := strs_cell (HB3.out _ hb) abb ac hlt
          obtain ⟨s, hs⟩ : ∃ s, b.names[k] = s := ⟨_, rfl⟩
          rw [hs] at e0
          have hss := HNS.out s (by rw [← hs]; exact List.getElem_mem hlt)
          have HST := Lib.hid (namesL_step hlt)
          rw [hs] at HST
          have hix := fun w' => idx_str (ab := ab) (aoff := aoff) (n := b.names.length) (cap := sc) (show (k : Int) = ((k : Nat) : Int) by rfl) hlt w'
          obtain ⟨P2, hP2⟩ : ∃ P2, P ++ sevensL s.size = P2 := ⟨_, rfl⟩
          have HE := Lib.hid (show P2 ++ nums s = P0 ++ namesL (b.names.take (k + 1)) by rw [HST.out, ← hP2, ← HP.out]; simp)
          have hNUM : Calls Tryd.prog 45 #[.slice so P.length sc', .int .i64 s.size] wr (BytesPost W3.heap.size wr (.slice so P.length sc') (P ++ sevensL s.size)) := number_any (n := (s.size : Int)) ho hsz (by omega) (by omega) (by omega)
          have hln2 : P2.length ≤ 1000000 := by rw [← hP2, List.length_append]; have := sevens_nine (n := s.size) (by omega); omega
          rw [hP2] at hNUM
          have HNUM := Lib.hid hNUM
          have hss2 : s.size ≤ 1000000 := by omega
          have HV := Lib.hid fun g hg => (ho.lt g hg).1
          clear hs a5 ac hss hln hP2 hNUM
          go_wp2_with (first
            | (go_at_call 45; (with_reducible refine HNUM.out.mono ?_); intro e w5 h5; have hb5 := hb.trans (h5.below HV.out hsz); obtain ⟨-, v5, rfl, ho5, -⟩ := h5; obtain ⟨s5, c5, rfl⟩ := ho5.isSlice; have hz5 := hb5.size)
            | (at_builtin; refine wpList_append_str rfl (.tmp 50) (.tmp 51) rfl W3.heap.size _ P2 rfl ho5 s rfl hln2 hss2 hz5 ?_; intro v6 w6 own6 hg6; have hb6 := hg6 W3.heap.size W3 hb5 (Nat.le_refl _)))
          go_roundg (b.names.length - (k + 1))
          case measure => omega
          case rel => exact ⟨k + 1, by omega, rfl, by go_num, by rw [← HE.out]; exact own6, hb6⟩
        · have hPn : P = P0 ++ namesL b.names := by rw [← HP.out, List.take_of_length_le (by omega)]
          have HPN := Lib.hid hPn
          obtain ⟨F, hF⟩ : ∃ F : Nat, b.floor = F := ⟨b.floor.toNat, by have := HF0.out; omega⟩
          have hFr : F ≤ 1048575 := by have := HF0.out; omega
          have HF := Lib.hid hF
          rw [hF] at x7
          obtain ⟨P2, hP2⟩ : ∃ P2, P ++ sevensL F = P2 := ⟨_, rfl⟩
          obtain ⟨P1, hP1⟩ : ∃ P1, P2 ++ sevensL l.length = P1 := ⟨_, rfl⟩
          have hl2 : P2.length ≤ 410 := by
            have h1 := sevens_nine (n := F) (by omega)
            rw [← hP2, List.length_append]; omega
          have hl1 : P1.length ≤ 420 := by
            have h2 := sevens_nine (n := l.length) (by omega)
            rw [← hP1, List.length_append]; omega
          have hN1 : Calls Tryd.prog 45 #[.slice so P.length sc', .int .i64 F] wr (BytesPost W3.heap.size wr (.slice so P.length sc') (P ++ sevensL F)) := number_any (n := (F : Int)) ho hsz (by omega) (by omega) (by omega)
          have hN2 : ∀ w5 (v5 : Value) (ho5 : OwnBytes W3.heap.size w5 v5 P2) (hz5 : W3.heap.size ≤ w5.heap.size), Calls Tryd.prog 45 #[v5, .int .i64 l.length] w5 (BytesPost W3.heap.size w5 v5 (P2 ++ sevensL l.length)) := fun w5 v5 ho5 hz5 => number_any (n := (l.length : Int)) ho5 hz5 (by omega) (by omega) (by omega)
          have HBY := Lib.hid (show P1 ++ entsL 0 l = bytesL b l by rw [← hP1, ← hP2, HPN.out, ← HP0.out]; unfold bytesL; rw [HF.out]; simp)
          rw [hP2] at hN1
          rw [hP1] at hN2
          have HN1 := Lib.hid hN1
          have HN2 := Lib.hid hN2
          have HV := Lib.hid fun g hg => (ho.lt g hg).1
          clear hPn hF hP1 hP2 hN1 hN2
          go_upto_region 16 with (first
            | (go_at_call 45; (with_reducible refine HN1.out.mono ?_); intro e w5 h5; have hb5 := hb.trans (h5.below HV.out hsz); obtain ⟨-, v5, rfl, ho5, -⟩ := h5; obtain ⟨s5, c5, rfl⟩ := ho5.isSlice; have hz5 := hb5.size)
            | (go_at_call 45; (with_reducible refine (HN2.out _ _ ho5 hz5).mono ?_); intro e w6 h6; have hb6 := hb5.trans (h6.below (fun g hg => (ho5.lt g hg).1) hz5); obtain ⟨-, v6, rfl, ho6, -⟩ := h6; obtain ⟨s6, c6, rfl⟩ := ho6.isSlice))
          have hTot := ents_len (last := 0) HG.out (Int.le_refl 0)
          have hT2 : (entsL 0 l).length ≤ 540000 := by have := HM.out; omega
          clear ho hb hsz hz5 hb5 ho5 x0 x7 hln hTot
          go_upto_region 18 with (fail)
          go_loopg [7, 10, 63] l.length (fun g bv lv i wr => ∃ (k : Nat) (last : Int) (pre : List Int), k ≤ l.length ∧ g = l.length - k ∧ i = .int .i64 k ∧ lv = .int .i64 last ∧ OwnBytes W3.heap.size wr bv (P1 ++ pre) ∧ Hid (entsL 0 l = pre ++ entsL last (l.drop k)) ∧ Hid (0 ≤ last ∧ ∀ e ∈ l.drop k, last ≤ e.key) ∧ Below W3.heap.size W3 wr)
          case atStart => exact ⟨0, 0, [], Nat.zero_le _, rfl, rfl, rfl, by simpa using ho6, Lib.hid rfl, Lib.hid ⟨Int.le_refl 0, fun e he => (HG.out.2.1 e he).1⟩, hb6⟩
          case round =>
            clear ho6 hb6
            obtain ⟨k, last, pre, hk, rfl, rfl, rfl, ho, HPRE, HLAST, hb⟩ := hrel
            have hsz := hb.size
            have hpl : pre.length ≤ 540000 := by
              have := congrArg List.length HPRE.out
              rw [List.length_append] at this; omega
            obtain ⟨Q, hQ⟩ : ∃ Q, P1 ++ pre = Q := ⟨_, rfl⟩
            rw [hQ] at ho
            have hql : Q.length ≤ 541000 := by rw [← hQ, List.length_append]; omega
            have HQ := Lib.hid hQ
            obtain ⟨so, sc', rfl⟩ := ho.isSlice
            clear hQ hpl
            by_cases hlt : k < l.length
            · obtain ⟨_, _, hv, -, -, -, -, h5⟩ := HEN.out
              injection hv with hv1 _ hv3
              subst hv1 hv3
              obtain ⟨eb, eoff, hla, heb, hec⟩ := h5 (by omega)
              subst hla
              obtain ⟨y0, y1, y2, y3, y4, y5, y6⟩ := ent_cells (HB2.out _ hb) heb hec hlt
              obtain ⟨y, hy⟩ : ∃ y, l[k] = y := ⟨_, rfl⟩
              rw [hy] at y0 y1 y2 y3 y4 y5 y6
              have hyl : y ∈ l := by rw [← hy]; exact List.getElem_mem hlt
              have hyd : y ∈ l.drop k := by rw [List.drop_eq_getElem_cons hlt, hy]; simp
              obtain ⟨hk0, hk1⟩ := HG.out.2.1 y hyl
              obtain ⟨hgd, hcc⟩ := good_check (HG.out.1 y hyl).2 (HG.out.1 y hyl).1
              have hsm := good_sum hgd hcc
              obtain ⟨g0', g1', g2', g3', g4', g5', g6', -⟩ := hgd
              have hla1 := HLAST.out.1
              have hla2 := HLAST.out.2 y hyd
              have HST := Lib.hid (entsL_step (last := last) hlt)
              rw [hy] at HST
              have HNL := Lib.hid (show 0 ≤ y.key ∧ ∀ e ∈ l.drop (k + 1), y.key ≤ e.key from ⟨hk0, fun e he => by
                obtain ⟨i, hi, rfl⟩ := List.getElem_of_mem he
                rw [List.getElem_drop]
                have h1 := List.pairwise_iff_getElem.1 HRI.out k (k + 1 + i) hlt (by rw [List.length_drop] at hi; omega) (by omega)
                rw [hy] at h1; omega⟩)
              have m1 : IntKind.i64.wrap (y.key - last) = y.key - last := IntWalk.i64_in _ (by omega)
              have hix := fun w' => idx_ents (ab := eb) (aoff := eoff) (n := l.length) (cap := c2) (show (k : Int) = ((k : Nat) : Int) by rfl) hlt w'
              have hwz : eb < wr.heap.size := by have := (HB2.out _ hb).size; omega
              obtain ⟨W1, hW1⟩ : ∃ W1, W1 = wr.alloc (.cells #[.int .i64 y.key, .int .i64 y.is.c, .int .i64 y.is.s, .int .i64 y.is.mi, .int .i64 y.is.ma, .int .i64 y.is.t, .int .i64 y.is.l] 70) := ⟨_, rfl⟩
              have hb1' : Below W3.heap.size W3 W1 := by rw [hW1]; exact (by repeat (first | with_reducible exact Below.refl _ _ | with_reducible assumption | with_reducible refine below_dn ?_ _ | with_reducible refine Below.drew ?_ | with_reducible refine Below.alloc ?_ (by first | omega | (simp; done) | (simp; omega) | (simp [drew_size]; done) | (simp [drew_size]; omega)) _ | with_reducible refine Below.setCell ?_ (by first | omega | (simp; done) | (simp; omega) | (simp [drew_size]; done) | (simp [drew_size]; omega)) _))
              have hz1 : W1.heap.size = wr.heap.size + 1 := by rw [hW1]; simp
              have k1 : W1.heap[wr.heap.size]? = some (.cells #[.int .i64 y.key, .int .i64 y.is.c, .int .i64 y.is.s, .int .i64 y.is.mi, .int .i64 y.is.ma, .int .i64 y.is.t, .int .i64 y.is.l] 70) := by rw [hW1]; exact heap_new _ _ rfl
              have HYC := Lib.hid fun (w' : World) (X : Nat → Prop) (ht : Turn X W1 w') (hX : ¬ X wr.heap.size) => (by
                have b0 : w'.heap[wr.heap.size]? = _ := (ht.block _ (by omega) hX).trans k1
                simp [World.cell?, b0] : w'.cell? ⟨wr.heap.size, 0, none⟩ = some (.int .i64 y.key) ∧ w'.cell? ⟨wr.heap.size, 1, none⟩ = some (.int .i64 y.is.c) ∧ w'.cell? ⟨wr.heap.size, 2, none⟩ = some (.int .i64 y.is.s) ∧ w'.cell? ⟨wr.heap.size, 3, none⟩ = some (.int .i64 y.is.mi) ∧ w'.cell? ⟨wr.heap.size, 4, none⟩ = some (.int .i64 y.is.ma) ∧ w'.cell? ⟨wr.heap.size, 5, none⟩ = some (.int .i64 y.is.t) ∧ w'.cell? ⟨wr.heap.size, 6, none⟩ = some (.int .i64 y.is.l))
              have ho1 : OwnBytes W3.heap.size W1 (.slice so Q.length sc') Q := by rw [hW1]; exact ho.alloc _
              have hnb : (Value.slice so Q.length sc').ownBlock ≠ some wr.heap.size := fun h => by have := (ho.lt _ h).2; omega
              obtain ⟨q0, q1, q2, q3, q4, q5, q6⟩ := HYC.out W1 (fun _ => False) (Turn.refl _ _) (fun h => h)
              obtain ⟨Q1, hQ1⟩ : ∃ Q1, Q ++ sevensL (y.key - last).toNat = Q1 := ⟨_, rfl⟩
              obtain ⟨Q2, hQ2⟩ : ∃ Q2, Q1 ++ sevensL y.is.c.toNat = Q2 := ⟨_, rfl⟩
              have hl1' : Q1.length ≤ 541009 := by rw [← hQ1, List.length_append]; have := sevens_nine (n := (y.key - last).toNat) (by omega); omega
              have hl2' : Q2.length ≤ 541018 := by rw [← hQ2, List.length_append]; have := sevens_nine (n := y.is.c.toNat) (by omega); omega
              have hN1 := number_any (n := y.key - last) ho1 hb1'.size (by omega) (by omega) (by omega)
              have hN2 : ∀ w5 (v5 : Value) (ho5 : OwnBytes W3.heap.size w5 v5 Q1) (hz5 : W3.heap.size ≤ w5.heap.size), Calls Tryd.prog 45 #[v5, .int .i64 y.is.c] w5 (BytesPost W3.heap.size w5 v5 (Q1 ++ sevensL y.is.c.toNat)) := fun w5 v5 ho5 hz5 => number_any (n := y.is.c) ho5 hz5 (by omega) (by omega) (by omega)
              rw [hQ1] at hN1
              rw [hQ2] at hN2
              have HN1 := Lib.hid hN1
              have HN2 := Lib.hid hN2
              have HQQ := Lib.hid (show Q2 = P1 ++ (pre ++ (sevensL (y.key - last).toNat ++ sevensL y.is.c.toNat)) by rw [← hQ2, ← hQ1, ← HQ.out]; simp)
              have HV1 := Lib.hid fun g hg => (ho1.lt g hg).1
              have HNB := Lib.hid hnb
              clear hec h5 hy hyl hyd hQ1 hQ2 hN1 hN2 hnb
              go_upto_region 20 with (fail)
              rw [← hW1]
              clear hW1 k1 ho y0 y1 y2 y3 y4 y5 y6
              go_upto_region 21 with ((go_at_call 45; (with_reducible refine HN1.out.mono ?_); intro e w5 h5; have hb5 := hb1'.trans (h5.below HV1.out hb1'.size); obtain ⟨ht5, v5, rfl, ho5, hl5⟩ := h5; obtain ⟨s5, c5, rfl⟩ := ho5.isSlice; have hz5 := hb5.size))
              have hnb5 : (Value.slice s5 Q1.length c5).ownBlock ≠ some wr.heap.size := fun h => by
                rcases hl5 _ h with h' | h'
                · exact HNB.out h'
                · omega
              clear q0 q1 q2 q3 q4 q5 q6
              obtain ⟨q0, q1, q2, q3, q4, q5, q6⟩ := HYC.out w5 _ ht5 HNB.out
              have hzz5 : wr.heap.size < w5.heap.size := by have := ht5.size; omega
              have HNB5 := Lib.hid hnb5
              clear hnb5 hl5
              go_upto_region 23 with ((go_at_call 45; (with_reducible refine (HN2.out _ _ ho5 hz5).mono ?_); intro e w6 h6; have hb6 := hb5.trans (h6.below (fun g hg => (ho5.lt g hg).1) hz5); obtain ⟨ht6, v6, rfl, ho6, hl6⟩ := h6; obtain ⟨s6, c6, rfl⟩ := ho6.isSlice; have hz6 := hb6.size))
              have ht56 : Turn (fun x => (Value.slice so Q.length sc').ownBlock = some x ∨ (Value.slice s5 Q1.length c5).ownBlock = some x) W1 w6 :=
                (ht5.mono (fun i _ h => .inl h)).trans' ht6 (fun i _ h => .inr h)
              clear q0 q1 q2 q3 q4 q5 q6
              obtain ⟨q0, q1, q2, q3, q4, q5, q6⟩ := HYC.out w6 _ ht56 (fun h => h.elim HNB.out HNB5.out)
              obtain ⟨Z, hZ⟩ : ∃ Z, [y.is.s, y.is.mi, y.is.ma, y.is.l] = Z := ⟨_, rfl⟩
              have hZl : Z.length = 4 := by rw [← hZ]; rfl
              have HZB := Lib.hid (show ∀ n ∈ Z, -4611686018427387903 ≤ n ∧ n < 4611686018427387904 from fun n hn => by rw [← hZ] at hn; simp at hn; omega)
              obtain ⟨W7, hW7⟩ : ∃ W7, W7 = w6.alloc (.cells #[.int .i64 y.is.s, .int .i64 y.is.mi, .int .i64 y.is.ma, .int .i64 y.is.l] 3) := ⟨_, rfl⟩
              have hb7 : Below W3.heap.size W3 W7 := by rw [hW7]; exact (by repeat (first | with_reducible exact Below.refl _ _ | with_reducible assumption | with_reducible refine below_dn ?_ _ | with_reducible refine Below.drew ?_ | with_reducible refine Below.alloc ?_ (by first | omega | (simp; done) | (simp; omega) | (simp [drew_size]; done) | (simp [drew_size]; omega)) _ | with_reducible refine Below.setCell ?_ (by first | omega | (simp; done) | (simp; omega) | (simp [drew_size]; done) | (simp [drew_size]; omega)) _))
              have hz7 : W7.heap.size = w6.heap.size + 1 := by rw [hW7]; simp
              have k7 : W7.heap[w6.heap.size]? = some (.cells #[.int .i64 y.is.s, .int .i64 y.is.mi, .int .i64 y.is.ma, .int .i64 y.is.l] 3) := by rw [hW7]; exact heap_new _ _ rfl
              have HZC := Lib.hid fun (w' : World) (X : Nat → Prop) (ht : Turn X W7 w') (hX : ¬ X w6.heap.size) (j : Nat) (hj : j < Z.length) => (by
                have b0 : w'.heap[w6.heap.size]? = _ := (ht.block _ (by omega) hX).trans k7
                subst hZ
                match j, hj with
                | 0, _ => simp [World.cell?, b0]
                | 1, _ => simp [World.cell?, b0]
                | 2, _ => simp [World.cell?, b0]
                | 3, _ => simp [World.cell?, b0] : w'.cell? ⟨w6.heap.size, j, none⟩ = some (.int .i64 Z[j]))
              have ho7 : OwnBytes W3.heap.size W7 (.slice s6 Q2.length c6) Q2 := by rw [hW7]; exact ho6.alloc _
              have hnb6 : (Value.slice s6 Q2.length c6).ownBlock ≠ some w6.heap.size := fun h => by have := (ho6.lt _ h).2; omega
              have HNB6 := Lib.hid hnb6
              have HEL := Lib.hid (show P1 ++ (pre ++ entL last y) = Q2 ++ Z.flatMap zigsL by rw [HQQ.out, ← hZ]; simp [entL])
              have HEN2 := Lib.hid (show entsL 0 l = (pre ++ entL last y) ++ entsL y.key (l.drop (k + 1)) by rw [HPRE.out, HST.out]; simp)
              have HV6 := Lib.hid fun g hg => (ho7.lt g hg).1
              have HB7 := Lib.hid hb7
              clear hnb6 hZ ho6 ht6 hl6 hb6 ht56 ht5 ho5 hb5 HYC HN1 HN2 hzz5 hz5
              go_upto_region 24 with (fail)
              rw [← hW7]
              clear hW7 k7 q0 q1 q2 q3 q4 q5 q6
              go_loopg [7, 94] 4 (fun g bv i wr2 => ∃ (j : Nat) (bs : List Int), j ≤ 4 ∧ g = 4 - j ∧ i = .int .i64 j ∧ OwnBytes W3.heap.size wr2 bv bs ∧ Hid (bs = Q2 ++ (Z.take j).flatMap zigsL) ∧ bs.length ≤ 541018 + 9 * j ∧ Hid (Turn (fun x => (Value.slice s6 Q2.length c6).ownBlock = some x) W7 wr2) ∧ Hid (∀ x, bv.ownBlock = some x → (Value.slice s6 Q2.length c6).ownBlock = some x ∨ W7.heap.size ≤ x))
              case atStart => exact ⟨0, Q2, by omega, rfl, rfl, ho7, Lib.hid (by simp), by omega, Lib.hid (Turn.refl _ _), Lib.hid fun x hx => .inl hx⟩
              case round =>
                obtain ⟨j, bs, hj, rfl, rfl, hob, HBS, hbl, HTU, HLO⟩ := hrel
                obtain ⟨so8, sc8, rfl⟩ := hob.isSlice
                have hbw := HTU.out.below HB7.out (by have := HB7.out.size; omega) (fun i hi => HV6.out i hi)
                have hsz8 := hbw.size
                by_cases hj4 : j < 4
                · have hjz : j < Z.length := by omega
                  have e0 := HZC.out wr _ HTU.out HNB6.out j hjz
                  obtain ⟨n, hn⟩ : ∃ n, Z[j] = n := ⟨_, rfl⟩
                  rw [hn] at e0
                  obtain ⟨n1, n2⟩ := HZB.out n (by rw [← hn]; exact List.getElem_mem hjz)
                  have hix := fun w' => idx_int (ab := w6.heap.size) (aoff := 0) (n := 4) (cap := 4) (show (j : Int) = ((j : Nat) : Int) by rfl) hj4 w'
                  simp only [Nat.zero_add] at hix
                  obtain ⟨bs2, hbs2⟩ : ∃ bs2, bs ++ zigsL n = bs2 := ⟨_, rfl⟩
                  have hN8 := signed_any (n := n) hob hsz8 n1 n2 (by omega)
                  rw [hbs2] at hN8
                  have HN8 := Lib.hid hN8
                  have HB2' := Lib.hid (show bs2 = Q2 ++ (Z.take (j + 1)).flatMap zigsL by
                    rw [List.take_succ_eq_append_getElem hjz, List.flatMap_append, hn, ← hbs2, HBS.out]; simp)
                  have hbl2 : bs2.length ≤ 541018 + 9 * (j + 1) := by rw [← hbs2, List.length_append]; have := zigs_len (n := n) n1 n2; omega
                  clear hn hbs2 hN8 hjz
                  go_wp2_with ((go_at_call 46; (with_reducible refine HN8.out.mono ?_); rintro e w9 ⟨ht9, v9, rfl, ho9, hl9⟩; obtain ⟨s9, c9, rfl⟩ := ho9.isSlice))
                  go_roundg (4 - (j + 1))
                  case measure => omega
                  case rel =>
                    refine ⟨j + 1, bs2, by omega, rfl, by go_num, ho9, HB2', hbl2, Lib.hid (HTU.out.trans' ht9 fun i hi hx => ?_), Lib.hid fun x hx => ?_⟩
                    · rcases HLO.out i hx with h | h
                      · exact h
                      · omega
                    · rcases hl9 x hx with h | h
                      · exact HLO.out x h
                      · exact .inr (by have := HTU.out.size; omega)
                · have hj' : j = 4 := by omega
                  have HFIN := Lib.hid (show bs = P1 ++ (pre ++ entL last y) by rw [HBS.out, HEL.out, List.take_of_length_le (by omega)])
                  go_wp2
                  go_roundg (l.length - (k + 1))
                  case measure => omega
                  case rel => exact ⟨k + 1, y.key, pre ++ entL last y, by omega, rfl, by go_num, rfl, by rw [← HFIN.out]; exact hob, HEN2, HNL, hbw⟩
            · have hall : Q = bytesL b l := by
                have h1 := HPRE.out
                rw [List.drop_eq_nil_of_le (by omega)] at h1
                have h2 : entsL last [] = [] := by cases l <;> rfl
                rw [h2, List.append_nil] at h1
                rw [← HQ.out, ← h1, HBY.out]
              have HALL := Lib.hid hall
              have HBB := Lib.hid (bytes_bytes b l)
              rw [← hall] at HBB
              have hsr := sealXY_range Q
              obtain ⟨p, hp⟩ : ∃ p, sealXY Q = p := ⟨_, rfl⟩
              obtain ⟨X, Y⟩ := p
              rw [hp] at hsr
              obtain ⟨r1, r2, r3, r4⟩ := hsr
              simp only at r1 r2 r3 r4
              have hS := sum_any (ho.at (by omega)) HBB.out
              rw [hp] at hS
              obtain ⟨N, hN⟩ : ∃ N, Y * 65536 + X = N := ⟨_, rfl⟩
              rw [show ((X, Y) : Int × Int).2 * 65536 + ((X, Y) : Int × Int).1 = N from hN] at hS
              have HS := Lib.hid hS
              have HSL := Lib.hid (show sealL Q = [Y / 256, Y % 256, X / 256, X % 256] by simp [sealL, hp])
              have lw : IntKind.i64.wrap ((Q.length : Int) + 4) = (Q.length : Int) + 4 := IntWalk.i64_in _ (by omega)
              have u1 : IntKind.u8.wrap (N / 16777216) = Y / 256 := by rw [IntKind.wrap_u8]; omega
              have u2 : IntKind.u8.wrap (N / 65536) = Y % 256 := by rw [IntKind.wrap_u8]; omega
              have u3 : IntKind.u8.wrap (N / 256) = X / 256 := by rw [IntKind.wrap_u8]; omega
              have u4 : IntKind.u8.wrap N = X % 256 := by rw [IntKind.wrap_u8]; omega
              have hbwr := HB3.out _ hb
              obtain ⟨A1, hA1⟩ : ∃ A1, Y / 256 = A1 := ⟨_, rfl⟩
              obtain ⟨A2, hA2⟩ : ∃ A2, Y % 256 = A2 := ⟨_, rfl⟩
              obtain ⟨A3, hA3⟩ : ∃ A3, X / 256 = A3 := ⟨_, rfl⟩
              obtain ⟨A4, hA4⟩ : ∃ A4, X % 256 = A4 := ⟨_, rfl⟩
              rw [hA1] at u1 HSL
              rw [hA2] at u2 HSL
              rw [hA3] at u3 HSL
              rw [hA4] at u4 HSL
              have hql2 : Q.length ≤ 1000000 := by omega
              clear hall hp hS hN hA1 hA2 hA3 hA4 r1 r2 r3 r4
              by_cases hlong : 200000 < Q.length + 4
              · have hd : decide ((200000 : Int) < (Q.length : Int) + 4) = true := by simp; omega
                have HR := Lib.hid (encE_long HMAY.out HL.out HM.out (by rw [← HALL.out]; exact hlong))
                clear hlong
                go_wp2_with ((go_at_call 47; (with_reducible refine HS.out.mono ?_); rintro e w9 ⟨rfl, hw9⟩; obtain rfl := hw9.symm))
                go_ret2
                rw [HR.out.1, HR.out.2]
                exact ⟨hbwr, _, rfl, OwnBytes.nil _ _⟩
              · have hd : decide ((200000 : Int) < (Q.length : Int) + 4) = false := by simp; omega
                have HR := Lib.hid (encE_ok HMAY.out HL.out HM.out (by rw [← HALL.out]; exact hlong))
                rw [← HALL.out, HSL.out] at HR
                clear hlong
                have hz9 : w.heap.size ≤ W3.heap.size := by have := (HB3.out _ (Below.refl _ _)).size; omega
                have hV9 := Lib.hid fun g hg => (ho.lt g hg).1
                go_wp2_with (first
                  | (go_at_call 47; (with_reducible refine HS.out.mono ?_); rintro e w9 ⟨rfl, hw9⟩; obtain rfl := hw9.symm)
                  | (at_builtin; refine wpList_append_bytes rfl (.tmp 109) (.tmp 121) rfl W3.heap.size _ Q rfl (by repeat (first | assumption | with_reducible refine OwnBytes.alloc ?_ _ | with_reducible refine OwnBytes.drewN ?_ _ | with_reducible refine OwnBytes.drew ?_)) ⟨_, 0, none⟩ 4 4 [A1, A2, A3, A4] rfl rfl (fun j u h => byte_new (by simpa [enB] using h)) hql2 (by simp) (by first | omega | (simp; done) | (simp; omega) | (simp [drew_size]; done) | (simp [drew_size]; omega)) ?_; intro v9 w9 own9 ht9 _; have hb9 : Below W3.heap.size W3 w9 := ht9.below (show Below W3.heap.size W3 _ from (by repeat (first | with_reducible exact Below.refl _ _ | with_reducible assumption | with_reducible refine below_dn ?_ _ | with_reducible refine Below.drew ?_ | with_reducible refine Below.alloc ?_ (by first | omega | (simp; done) | (simp; omega) | (simp [drew_size]; done) | (simp [drew_size]; omega)) _ | with_reducible refine Below.setCell ?_ (by first | omega | (simp; done) | (simp; omega) | (simp [drew_size]; done) | (simp [drew_size]; omega)) _))) (by first | omega | (simp; done) | (simp; omega) | (simp [drew_size]; done) | (simp [drew_size]; omega)) (fun i hi => hV9.out i hi)))
                go_ret2
                rw [HR.out.1, HR.out.2]
                exact ⟨HB3.out _ hb9, _, rfl, own9.mono hz9⟩
end Go.Proofs.YtijcaejdgicbmaaDoor
