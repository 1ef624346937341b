/- The walk of the document's BaseBytes. -/
import Derived.Test.YtijcaejdgicbmaaDoorEncode
namespace Go.Proofs.YtijcaejdgicbmaaDoor
open Go.RowKit

/-- Bytes so far, beside a block that stays. -/
structure ByteSt (W : World) (B c : Nat) (o : Obj) (wc : World) (bv : Value) (bs : List Int) : Prop where
  own : OwnBytes B wc bv bs
  below : Below B W wc
  blk : wc.heap[c]? = some o
  nb : bv.ownBlock ≠ some c
theorem ByteSt.call {W : World} {B c : Nat} {o : Obj} {wc w5 : World} {bv : Value} {bs : List Int} (h : ByteSt W B c o wc bv bs) (hB : B ≤ W.heap.size) (hb : Below wc.heap.size wc w5) : ByteSt W B c o w5 bv bs :=
  ⟨h.own.below hb (Nat.le_refl _), h.below.trans (hb.mono (Nat.le_trans hB h.below.size)), (hb.block _ (Array.getElem?_eq_some_iff.1 h.blk).1).trans h.blk, h.nb⟩
theorem ByteSt.app {W : World} {B c : Nat} {o : Obj} {w5 w6 : World} {bv v6 : Value} {bs bs6 : List Int} (h : ByteSt W B c o w5 bv bs) (hB : B ≤ W.heap.size) (ho : OwnBytes B w6 v6 bs6) (ht : Turn (fun b => bv.ownBlock = some b) w5 w6) (hl : ∀ b, v6.ownBlock = some b → bv.ownBlock = some b ∨ w5.heap.size ≤ b) : ByteSt W B c o w6 v6 bs6 :=
  ⟨ho, ht.below h.below (Nat.le_trans hB h.below.size) (fun i hi => (h.own.lt i hi).1), (ht.block _ (Array.getElem?_eq_some_iff.1 h.blk).1 h.nb).trans h.blk, fun hc => by
    rcases hl _ hc with h' | h'
    · exact h.nb h'
    · have := (Array.getElem?_eq_some_iff.1 h.blk).1; omega⟩
theorem zigs_pos (n : Int) : 0 < (zigsL n).length := by unfold zigsL; split <;> exact sevens_pos _

set_option maxRecDepth 100000 in
set_option maxHeartbeats 8000000 in
theorem baseBytes_any {v : Value} {b : Ba} {w : World} (h : BaseAt w v b) (hst : ∀ s ∈ b.names, s.size ≤ 140737488351232) :
    Calls Tryd.prog 15 #[v] w (EncPost w.heap.size w (encL b) (encE b)) := by
  have HCK := Lib.hid fun w' (hb : Below w.heap.size w w') => baseMay_any (h.below hb) hst
  have HBO := Lib.hid fun w' (hb : Below w.heap.size w w') => book_any (h.below hb)
  obtain ⟨sa, sc, g0, l0, p0, g1, l1, p1, g2, l2, p2, rfl, hn, hnames, T0, T1, T2⟩ := h.open
  obtain ⟨W0, hW0⟩ : ∃ W0, W0 = w.alloc (.cells (baCells sa b.names.length sc g0 l0 p0 g1 l1 p1 g2 l2 p2 b) 28) := ⟨_, rfl⟩
  have hb0 : Below w.heap.size w W0 := by rw [hW0]; exact (by repeat (first | with_reducible exact Below.refl _ _ | with_reducible assumption | with_reducible refine below_dn ?_ _ | with_reducible refine Below.drew ?_ | with_reducible refine Below.alloc ?_ (by first | omega | (simp; done) | (simp; omega) | (simp [drew_size]; done) | (simp [drew_size]; omega)) _ | with_reducible refine Below.setCell ?_ (by first | omega | (simp; done) | (simp; omega) | (simp [drew_size]; done) | (simp [drew_size]; omega)) _))
  have hz0 : W0.heap.size = w.heap.size + 1 := by rw [hW0]; simp
  have k0 : W0.heap[w.heap.size]? = some (.cells (baCells sa b.names.length sc g0 l0 p0 g1 l1 p1 g2 l2 p2 b) 28) := by rw [hW0]; exact heap_new _ _ rfl
  have HX := Lib.hid fun w' (hb : Below W0.heap.size W0 w') => (by
    have b0 : w'.heap[w.heap.size]? = _ := (hb.block _ (by omega)).trans k0
    simp [World.cell?, b0] :
    w'.cell? ⟨w.heap.size, 0, none⟩ = some (.slice sa b.names.length sc) ∧ w'.cell? ⟨w.heap.size, 1, none⟩ = some (.slice g0 l0 p0) ∧ w'.cell? ⟨w.heap.size, 2, none⟩ = some (.int .i64 b.t0.root) ∧ w'.cell? ⟨w.heap.size, 3, none⟩ = some (.slice g1 l1 p1) ∧ w'.cell? ⟨w.heap.size, 4, none⟩ = some (.int .i64 b.t1.root) ∧ w'.cell? ⟨w.heap.size, 5, none⟩ = some (.slice g2 l2 p2) ∧ w'.cell? ⟨w.heap.size, 6, none⟩ = some (.int .i64 b.t2.root) ∧ w'.cell? ⟨w.heap.size, 7, none⟩ = some (.int .i64 b.floor))
  have HB := Lib.hid fun w' (hb : Below W0.heap.size W0 w') => (Below.trans' hb0 hb hb0.size : Below w.heap.size w w')
  obtain ⟨x0, x1, x2, x3, x4, x5, x6, x7⟩ := HX.out W0 (Below.refl _ _)
  have HSN := Lib.hid hnames
  clear h hst hnames T0 T1 T2
  go_enter Tryd.func15, Tryd.ntmps15
  go_upto_region 1 with (fail)
  rw [← hW0]
  clear hW0 k0
  cases hmay : baseMay b with
  | false =>
    have HR := Lib.hid (encE_may hmay)
    rw [hmay] at HCK
    clear hmay
    go_wp2_with ((go_at_call 10; (with_reducible refine (HCK.out _ hb0).mono ?_); rintro e w1 ⟨rfl, hb1⟩))
    go_ret2
    rw [HR.out.1, HR.out.2]
    exact ⟨HB.out _ hb1, _, rfl, OwnBytes.nil _ _⟩
  | true =>
    rw [hmay] at HCK
    obtain ⟨l, hl, hrise, hg, -⟩ := base_knows hmay
    rw [hl] at HBO
    have HMAY := Lib.hid hmay
    have HL := Lib.hid hl
    have HRI := Lib.hid hrise
    have HG := Lib.hid hg
    have hll : l.length ≤ 50000 := hg.2.2
    clear hmay hl hrise hg
    go_upto_region 4 with (first | (go_at_call 10; (with_reducible refine (HCK.out _ hb0).mono ?_); rintro e w1 ⟨rfl, hb1⟩; have hbw1 := HB.out _ hb1; obtain ⟨x0, x1, x2, x3, x4, x5, x6, x7⟩ := HX.out _ hb1) | (go_at_call 35; (with_reducible refine (HBO.out _ hbw1).mono ?_); rintro e w2 ⟨hb2, v2, rfl, ho2⟩; have hb02 := Below.trans' hb1 hb2 hb1.size; obtain ⟨s2, c2, rfl⟩ := ho2.isSlice))
    have hbw2 := HB.out _ hb02
    by_cases hm : 10000 < l.length
    · have hmd : decide ((10000 : Int) < (l.length : Int)) = true := by simp; omega
      have HR := Lib.hid (encE_many HMAY.out HL.out hm)
      clear hm
      go_wp2
      go_ret2
      rw [HR.out.1, HR.out.2]
      exact ⟨hbw2, _, rfl, OwnBytes.nil _ _⟩
    · have hmd : decide ((10000 : Int) < (l.length : Int)) = false := by simp; omega
      have HM := Lib.hid hm
      have HEN := Lib.hid (ho2.at (by omega))
      have HN16 := Lib.hid (baseMay_ok HMAY.out).n16
      have HF0 := Lib.hid (And.intro (baseMay_ok HMAY.out).fl0 (baseMay_ok HMAY.out).fl1)
      have HNS := Lib.hid (names_small HMAY.out)
      have hn16 := HN16.out
      clear hm ho2 x0 x1 x2 x3 x4 x5 x6 x7
      obtain ⟨B, hB⟩ : ∃ B, w2.heap.size = B := ⟨_, rfl⟩
      obtain ⟨W3, hW3⟩ : ∃ W3, W3 = w2.alloc (.cells #[.int .u8 119, .int .u8 110] 5) := ⟨_, rfl⟩
      have hb3 : Below w2.heap.size w2 W3 := by rw [hW3]; exact (by repeat (first | with_reducible exact Below.refl _ _ | with_reducible assumption | with_reducible refine below_dn ?_ _ | with_reducible refine Below.drew ?_ | with_reducible refine Below.alloc ?_ (by first | omega | (simp; done) | (simp; omega) | (simp [drew_size]; done) | (simp [drew_size]; omega)) _ | with_reducible refine Below.setCell ?_ (by first | omega | (simp; done) | (simp; omega) | (simp [drew_size]; done) | (simp [drew_size]; omega)) _))
      have hb3B : Below B w2 W3 := by rw [← hB]; exact hb3
      have hB2 : B ≤ w2.heap.size := by omega
      have hz3 : W3.heap.size = B + 1 := by rw [hW3, ← hB]; simp
      have ho3 : OwnBytes B W3 (.slice (some ⟨B, 0, none⟩) 2 2) [119, 110] := by rw [hW3, ← hB]; exact OwnBytes.made (C := #[.int .u8 119, .int .u8 110]) (ys := [119, 110]) (n := 2) rfl rfl (by simp) (Nat.le_refl _)
      have HXB := Lib.hid fun w' (hb : Below B w2 w') => HX.out w' (hb02.trans (hb.mono (by have := hb02.size; omega)))
      have HBB := Lib.hid fun w' (hb : Below B w2 w') => HB.out w' (hb02.trans (hb.mono (by have := hb02.size; omega)))
      have HB2 := Lib.hid fun w' (hb : Below B w2 w') => (hb.mono (by omega) : Below w2.heap.size w2 w')
      go_upto_region 7 with (fail)
      rw [← hW3]
      try rw [hB]
      have HBE := Lib.hid hB
      clear hB
      clear hW3 hmd
      obtain ⟨x0, x1, x2, x3, x4, x5, x6, x7⟩ := HXB.out _ hb3B
      obtain ⟨P0, hP0⟩ : ∃ P0, [119, 110] ++ sevensL b.names.length = P0 := ⟨_, rfl⟩
      have HP0 := Lib.hid hP0
      obtain ⟨D0, hD0⟩ : ∃ D0, sevensL b.names.length = D0 := ⟨_, rfl⟩
      have hd0 : D0.length ≤ 9 := by rw [← hD0]; exact sevens_nine (by omega)
      have hp0 : 0 < D0.length := by rw [← hD0]; exact sevens_pos _
      have hS0 := sevens_any b.names.length W3 (by omega)
      rw [hD0] at hS0 hP0
      have HS0 := Lib.hid hS0
      have HP0' := Lib.hid hP0
      have hl0 : P0.length ≤ 11 := by rw [← hP0, List.length_append]; simp; omega
      have hlt0 : ([119, 110] : List Int).length ≤ 1000000 := by simp
      have hld0 : D0.length ≤ 1000000 := by omega
      clear hP0 hS0 hD0
      go_upto_region 8 with (first
        | (go_at_call 48; (with_reducible refine HS0.out.mono ?_); rintro e w4 ⟨hb4, v4, rfl, ho4⟩; obtain ⟨g4, c4, rfl⟩ := ho4.form hp0; have hb4' := hb3B.trans (hb4.mono (show B ≤ W3.heap.size by omega)); have ho3' := ho3.below hb4 (Nat.le_refl _); have hz4 : B ≤ w4.heap.size := (by have := hb4.size; omega))
        | (at_builtin; refine wpList_append_bytes rfl (.tmp 23) (.tmp 27) rfl B _ [119, 110] rfl ho3' ⟨g4, 0, none⟩ _ c4 D0 rfl rfl (ho4.cells hp0) hlt0 hld0 hz4 ?_; intro v5 w5 own5 ht5 _; have hb5 := ht5.below hb4' hz4 (fun i hi => (ho3'.lt i hi).1); rw [HP0'.out] at own5; obtain ⟨s5, c5, rfl⟩ := own5.isSlice))
      clear x0 x1 x2 x3 x4 x5 x6 x7 ho3 ho3' ho4 hb4 hb4' ht5
      go_upto_region 9 with (fail)
      go_loopg [6, 7] b.names.length (fun g bv i wr => ∃ k : Nat, k ≤ b.names.length ∧ g = b.names.length - k ∧ i = .int .i64 k ∧ OwnBytes B wr bv (P0 ++ namesL (b.names.take k)) ∧ Below B w2 wr)
      case atStart => exact ⟨0, Nat.zero_le _, rfl, rfl, by simpa [namesL] using own5, hb5⟩
      case round =>
        clear own5 hb5
        obtain ⟨k, hk, rfl, rfl, ho, hb⟩ := hrel
        have hsz : B ≤ wr.heap.size := by have := hb.size; omega
        obtain ⟨P, hP⟩ : ∃ P, P0 ++ namesL (b.names.take k) = P := ⟨_, rfl⟩
        rw [hP] at ho
        obtain ⟨so, sc', rfl⟩ := ho.isSlice
        obtain ⟨x0, -, -, -, -, -, -, x7⟩ := HXB.out _ hb
        have hln : P.length ≤ 400 := by
          have h1 := names_len (ns := b.names.take k) fun s hs => HNS.out s (List.mem_of_mem_take hs)
          rw [List.length_take] at h1
          rw [← hP, List.length_append]; omega
        have HP := Lib.hid hP
        clear hP
        by_cases hlt : k < b.names.length
        · obtain ⟨_, _, va, -, -, -, -, a5⟩ := HSN.out
          obtain ⟨ab, aoff, hA, abb, ac⟩ := a5 (by omega)
          injection va with va1 _ va3
          subst va1 va3 hA
          have HC := Lib.hid fun w' (hb : Below B w2 w') => strs_cell (HBB.out _ hb) abb ac hlt
          have e0 := HC.out _ hb
          obtain ⟨s, hs⟩ : ∃ s, b.names[k] = s := ⟨_, rfl⟩
          rw [hs] at e0 HC
          have hss := HNS.out s (by rw [← hs]; exact List.getElem_mem hlt)
          have HST := Lib.hid (namesL_step hlt)
          rw [hs] at HST
          have hix := fun w' => idx_str (ab := ab) (aoff := aoff) (n := b.names.length) (cap := sc) (show (k : Int) = ((k : Nat) : Int) by rfl) hlt w'
          obtain ⟨D, hD⟩ : ∃ D, sevensL s.size = D := ⟨_, rfl⟩
          obtain ⟨P2, hP2⟩ : ∃ P2, P ++ D = P2 := ⟨_, rfl⟩
          have HE := Lib.hid (show P2 ++ nums s = P0 ++ namesL (b.names.take (k + 1)) by rw [HST.out, ← hP2, ← HP.out, ← hD]; simp)
          have hS := sevens_any s.size wr (by omega)
          have hd : D.length ≤ 9 := by rw [← hD]; exact sevens_nine (by omega)
          have hp : 0 < D.length := by rw [← hD]; exact sevens_pos _
          rw [hD] at hS
          have HS := Lib.hid hS
          have HP2 := Lib.hid hP2
          have hln2 : P2.length ≤ 1000000 := by rw [← hP2, List.length_append]; omega
          have hln1 : P.length ≤ 1000000 := by omega
          have hld : D.length ≤ 1000000 := by omega
          have hss2 : s.size ≤ 1000000 := by omega
          clear hs a5 ac hss hln hP2 hS hD
          go_upto_region 12 with (first
            | (go_at_call 48; (with_reducible refine HS.out.mono ?_); rintro e w4 ⟨hb4, v4, rfl, ho4⟩; obtain ⟨g4, c4, rfl⟩ := ho4.form hp; have hb4' := hb.trans (hb4.mono hsz); have ho' := ho.below hb4 (Nat.le_refl _); have hz4 : B ≤ w4.heap.size := (by have := hb4.size; omega))
            | (at_builtin; refine wpList_append_bytes rfl (.tmp 36) (.tmp 43) rfl B _ P rfl ho' ⟨g4, 0, none⟩ _ c4 D rfl rfl (ho4.cells hp) hln1 hld hz4 ?_; intro v5 w5 own5 ht5 _; have hb5 := ht5.below hb4' hz4 (fun i hi => (ho'.lt i hi).1); rw [HP2.out] at own5; obtain ⟨s5, c5, rfl⟩ := own5.isSlice; have hz5 : B ≤ w5.heap.size := (by have := hb5.size; omega)))
          clear x0 x7 e0
          obtain ⟨x0, -, -, -, -, -, -, x7⟩ := HXB.out _ hb5
          have e0 := HC.out _ hb5
          go_wp2_with ((at_builtin; refine wpList_append_str rfl (.tmp 45) (.tmp 50) rfl B _ P2 rfl own5 s rfl hln2 hss2 hz5 ?_; intro v6 w6 own6 hg6; have hb6 := hg6 B w2 hb5 (Nat.le_refl _)))
          go_roundg (b.names.length - (k + 1))
          case measure => omega
          case rel => exact ⟨k + 1, by omega, rfl, by go_num, by rw [← HE.out]; exact own6, hb6⟩
        · have hPn : P = P0 ++ namesL b.names := by rw [← HP.out, List.take_of_length_le (by omega)]
          have HPN := Lib.hid hPn
          obtain ⟨F, hF⟩ : ∃ F : Nat, b.floor = F := ⟨b.floor.toNat, by have := HF0.out; omega⟩
          have hFr : F ≤ 1048575 := by have := HF0.out; omega
          have HF := Lib.hid hF
          rw [hF] at x7
          obtain ⟨D1, hD1⟩ : ∃ D1, sevensL F = D1 := ⟨_, rfl⟩
          obtain ⟨D2, hD2⟩ : ∃ D2, sevensL l.length = D2 := ⟨_, rfl⟩
          obtain ⟨P2, hP2⟩ : ∃ P2, P ++ D1 = P2 := ⟨_, rfl⟩
          obtain ⟨P1, hP1⟩ : ∃ P1, P2 ++ D2 = P1 := ⟨_, rfl⟩
          have hd1 : D1.length ≤ 9 := by rw [← hD1]; exact sevens_nine (by omega)
          have hp1 : 0 < D1.length := by rw [← hD1]; exact sevens_pos _
          have hd2 : D2.length ≤ 9 := by rw [← hD2]; exact sevens_nine (by omega)
          have hp2 : 0 < D2.length := by rw [← hD2]; exact sevens_pos _
          have hl2 : P2.length ≤ 410 := by rw [← hP2, List.length_append]; omega
          have hl1 : P1.length ≤ 420 := by rw [← hP1, List.length_append]; omega
          have hS1 := fun w => sevens_any F w (by omega)
          have hS2 := fun w => sevens_any l.length w (by omega)
          rw [hD1] at hS1
          rw [hD2] at hS2
          have HS1 := Lib.hid hS1
          have HS2 := Lib.hid hS2
          have HBY := Lib.hid (show P1 ++ entsL 0 l = bytesL b l by rw [← hP1, ← hP2, HPN.out, ← HP0.out, ← hD1, ← hD2]; unfold bytesL; rw [HF.out]; simp)
          have HP2 := Lib.hid hP2
          have HP1 := Lib.hid hP1
          have k1 : P.length ≤ 1000000 := by omega
          have k2 : P2.length ≤ 1000000 := by omega
          have k3 : D1.length ≤ 1000000 := by omega
          have k4 : D2.length ≤ 1000000 := by omega
          clear hPn hF hP1 hP2 hS1 hS2 hD1 hD2
          go_upto_region 14 with (first
            | (go_at_call 48; (with_reducible refine (HS1.out _).mono ?_); rintro e w4 ⟨hb4, v4, rfl, ho4⟩; obtain ⟨g4, c4, rfl⟩ := ho4.form hp1; have hb4' := hb.trans (hb4.mono hsz); have ho' := ho.below hb4 (Nat.le_refl _); have hz4 : B ≤ w4.heap.size := (by have := hb4.size; omega))
            | (at_builtin; refine wpList_append_bytes rfl (.tmp 52) (.tmp 55) rfl B _ P rfl ho' ⟨g4, 0, none⟩ _ c4 D1 rfl rfl (ho4.cells hp1) k1 k3 hz4 ?_; intro v5 w5 own5 ht5 _; have hb5 := ht5.below hb4' hz4 (fun i hi => (ho'.lt i hi).1); rw [HP2.out] at own5; obtain ⟨s5, c5, rfl⟩ := own5.isSlice; have hz5 : B ≤ w5.heap.size := (by have := hb5.size; omega)))
          go_upto_region 15 with (first
            | (go_at_call 48; (with_reducible refine (HS2.out _).mono ?_); rintro e w6 ⟨hb6, v6, rfl, ho6⟩; obtain ⟨g6, c6, rfl⟩ := ho6.form hp2; have hb6' := hb5.trans (hb6.mono hz5); have ho5' := own5.below hb6 (Nat.le_refl _); have hz6 : B ≤ w6.heap.size := (by have := hb6.size; omega))
            | (at_builtin; refine wpList_append_bytes rfl (.tmp 57) (.tmp 60) rfl B _ P2 rfl ho5' ⟨g6, 0, none⟩ _ c6 D2 rfl rfl (ho6.cells hp2) k2 k4 hz6 ?_; intro v7 w7 own7 ht7 _; have hb7 := ht7.below hb6' hz6 (fun i hi => (ho5'.lt i hi).1); rw [HP1.out] at own7; obtain ⟨s7, c7, rfl⟩ := own7.isSlice))
          have hTot := ents_len (last := 0) HG.out (Int.le_refl 0)
          have hT2 : (entsL 0 l).length ≤ 540000 := by have := HM.out; omega
          clear ho hb hsz hz5 hb5 own5 x0 x7 hln hTot ho' hb4 hb4' ho4 ht5 ht7 ho5' hb6 hb6' ho6 hz4 hz6
          go_upto_region 17 with (fail)
          go_loopg [6, 8, 9] l.length (fun g bv lv i wr => ∃ (k : Nat) (last : Int) (pre : List Int), k ≤ l.length ∧ g = l.length - k ∧ i = .int .i64 k ∧ lv = .int .i64 last ∧ OwnBytes B wr bv (P1 ++ pre) ∧ Hid (entsL 0 l = pre ++ entsL last (l.drop k)) ∧ Hid (0 ≤ last ∧ ∀ e ∈ l.drop k, last ≤ e.key) ∧ Below B w2 wr)
          case atStart => exact ⟨0, 0, [], Nat.zero_le _, rfl, rfl, rfl, by simpa using own7, Lib.hid rfl, Lib.hid ⟨Int.le_refl 0, fun e he => (HG.out.2.1 e he).1⟩, hb7⟩
          case round =>
            clear own7 hb7
            obtain ⟨k, last, pre, hk, rfl, rfl, rfl, ho, HPRE, HLAST, hb⟩ := hrel
            have hsz : B ≤ wr.heap.size := by have := hb.size; omega
            have hpl : pre.length ≤ 540000 := by
              have := congrArg List.length HPRE.out
              rw [List.length_append] at this; omega
            obtain ⟨Q, hQ⟩ : ∃ Q, P1 ++ pre = Q := ⟨_, rfl⟩
            rw [hQ] at ho
            have hql : Q.length ≤ 541000 := by rw [← hQ, List.length_append]; omega
            have HQ := Lib.hid hQ
            obtain ⟨so, sc', rfl⟩ := ho.isSlice
            clear hQ hpl
            by_cases hlt : k < l.length
            · obtain ⟨_, _, hv, -, -, -, -, h5⟩ := HEN.out
              injection hv with hv1 _ hv3
              subst hv1 hv3
              obtain ⟨eb, eoff, hla, heb, hec⟩ := h5 (by omega)
              subst hla
              have HYC := Lib.hid fun w' (hb : Below B w2 w') => ent_cells (HB2.out _ hb) heb hec hlt
              obtain ⟨y, hy⟩ : ∃ y, l[k] = y := ⟨_, rfl⟩
              rw [hy] at HYC
              obtain ⟨y0, y1, y2, y3, y4, y5, y6⟩ := HYC.out _ hb
              have hyl : y ∈ l := by rw [← hy]; exact List.getElem_mem hlt
              have hyd : y ∈ l.drop k := by rw [List.drop_eq_getElem_cons hlt, hy]; simp
              obtain ⟨hk0, hk1⟩ := HG.out.2.1 y hyl
              obtain ⟨hgd, hcc⟩ := good_check (HG.out.1 y hyl).2 (HG.out.1 y hyl).1
              have hsm := good_sum hgd hcc
              obtain ⟨g0', g1', g2', g3', g4', g5', g6', -⟩ := hgd
              have hla1 := HLAST.out.1
              have hla2 := HLAST.out.2 y hyd
              have HST := Lib.hid (entsL_step (last := last) hlt)
              rw [hy] at HST
              have HNL := Lib.hid (show 0 ≤ y.key ∧ ∀ e ∈ l.drop (k + 1), y.key ≤ e.key from ⟨hk0, fun e he => by
                obtain ⟨i, hi, rfl⟩ := List.getElem_of_mem he
                rw [List.getElem_drop]
                have h1 := List.pairwise_iff_getElem.1 HRI.out k (k + 1 + i) hlt (by rw [List.length_drop] at hi; omega) (by omega)
                rw [hy] at h1; omega⟩)
              obtain ⟨d, hd⟩ : ∃ d : Nat, y.key - last = d := ⟨(y.key - last).toNat, by omega⟩
              obtain ⟨c, hc⟩ : ∃ c : Nat, y.is.c = c := ⟨y.is.c.toNat, by omega⟩
              have m1 : IntKind.i64.wrap (y.key - last) = (d : Int) := by rw [hd]; exact IntWalk.i64_in _ (by omega)
              have hix := fun w' => idx_ents (ab := eb) (aoff := eoff) (n := l.length) (cap := c2) (show (k : Int) = ((k : Nat) : Int) by rfl) hlt w'
              have hwz : eb < wr.heap.size := by have := (HB2.out _ hb).size; omega
              obtain ⟨W1, hW1⟩ : ∃ W1, W1 = wr.alloc (.cells #[.int .i64 y.is.c, .int .i64 y.is.s, .int .i64 y.is.mi, .int .i64 y.is.ma, .int .i64 y.is.t, .int .i64 y.is.l] 41) := ⟨_, rfl⟩
              have hz1 : W1.heap.size = wr.heap.size + 1 := by rw [hW1]; simp
              have st0 : ByteSt w2 B wr.heap.size (.cells #[.int .i64 y.is.c, .int .i64 y.is.s, .int .i64 y.is.mi, .int .i64 y.is.ma, .int .i64 y.is.t, .int .i64 y.is.l] 41) W1 (.slice so Q.length sc') Q :=
                ⟨by rw [hW1]; exact ho.alloc _, by rw [hW1]; exact (by repeat (first | with_reducible exact Below.refl _ _ | with_reducible assumption | with_reducible refine below_dn ?_ _ | with_reducible refine Below.drew ?_ | with_reducible refine Below.alloc ?_ (by first | omega | (simp; done) | (simp; omega) | (simp [drew_size]; done) | (simp [drew_size]; omega)) _ | with_reducible refine Below.setCell ?_ (by first | omega | (simp; done) | (simp; omega) | (simp [drew_size]; done) | (simp [drew_size]; omega)) _)), by rw [hW1]; exact heap_new _ _ rfl, fun h => by have := (ho.lt _ h).2; omega⟩
              obtain ⟨D1, hD1⟩ : ∃ D1, sevensL d = D1 := ⟨_, rfl⟩
              obtain ⟨E1, hE1⟩ : ∃ E1, Q ++ D1 = E1 := ⟨_, rfl⟩
              have hd1' : D1.length ≤ 9 := by rw [← hD1]; exact sevens_nine (n := d) (by omega)
              have hp1' : 0 < D1.length := by rw [← hD1]; exact sevens_pos _
              have hS1' := fun w => sevens_any d w (by omega)
              rw [hD1] at hS1'
              have he1 : E1.length ≤ 541009 := by rw [← hE1, List.length_append]; omega
              obtain ⟨D2, hD2⟩ : ∃ D2, sevensL c = D2 := ⟨_, rfl⟩
              obtain ⟨E2, hE2⟩ : ∃ E2, E1 ++ D2 = E2 := ⟨_, rfl⟩
              have hd2' : D2.length ≤ 9 := by rw [← hD2]; exact sevens_nine (n := c) (by omega)
              have hp2' : 0 < D2.length := by rw [← hD2]; exact sevens_pos _
              have hS2' := fun w => sevens_any c w (by omega)
              rw [hD2] at hS2'
              have he2 : E2.length ≤ 541018 := by rw [← hE2, List.length_append]; omega
              obtain ⟨D3, hD3⟩ : ∃ D3, zigsL y.is.s = D3 := ⟨_, rfl⟩
              obtain ⟨E3, hE3⟩ : ∃ E3, E2 ++ D3 = E3 := ⟨_, rfl⟩
              have hd3' : D3.length ≤ 9 := by rw [← hD3]; exact zigs_len (by omega) (by omega)
              have hp3' : 0 < D3.length := by rw [← hD3]; exact zigs_pos _
              have hS3' := fun w => zigs_any y.is.s w (by omega) (by omega)
              rw [hD3] at hS3'
              have he3 : E3.length ≤ 541027 := by rw [← hE3, List.length_append]; omega
              obtain ⟨D4, hD4⟩ : ∃ D4, zigsL y.is.mi = D4 := ⟨_, rfl⟩
              obtain ⟨E4, hE4⟩ : ∃ E4, E3 ++ D4 = E4 := ⟨_, rfl⟩
              have hd4' : D4.length ≤ 9 := by rw [← hD4]; exact zigs_len (by omega) (by omega)
              have hp4' : 0 < D4.length := by rw [← hD4]; exact zigs_pos _
              have hS4' := fun w => zigs_any y.is.mi w (by omega) (by omega)
              rw [hD4] at hS4'
              have he4 : E4.length ≤ 541036 := by rw [← hE4, List.length_append]; omega
              obtain ⟨D5, hD5⟩ : ∃ D5, zigsL y.is.ma = D5 := ⟨_, rfl⟩
              obtain ⟨E5, hE5⟩ : ∃ E5, E4 ++ D5 = E5 := ⟨_, rfl⟩
              have hd5' : D5.length ≤ 9 := by rw [← hD5]; exact zigs_len (by omega) (by omega)
              have hp5' : 0 < D5.length := by rw [← hD5]; exact zigs_pos _
              have hS5' := fun w => zigs_any y.is.ma w (by omega) (by omega)
              rw [hD5] at hS5'
              have he5 : E5.length ≤ 541045 := by rw [← hE5, List.length_append]; omega
              obtain ⟨D6, hD6⟩ : ∃ D6, zigsL y.is.l = D6 := ⟨_, rfl⟩
              obtain ⟨E6, hE6⟩ : ∃ E6, E5 ++ D6 = E6 := ⟨_, rfl⟩
              have hd6' : D6.length ≤ 9 := by rw [← hD6]; exact zigs_len (by omega) (by omega)
              have hp6' : 0 < D6.length := by rw [← hD6]; exact zigs_pos _
              have hS6' := fun w => zigs_any y.is.l w (by omega) (by omega)
              rw [hD6] at hS6'
              have he6 : E6.length ≤ 541054 := by rw [← hE6, List.length_append]; omega
              have HEL := Lib.hid (show P1 ++ (pre ++ entL last y) = E6 by rw [← hE6, ← hE5, ← hE4, ← hE3, ← hE2, ← hE1, ← HQ.out, ← hD1, ← hD2, ← hD3, ← hD4, ← hD5, ← hD6]; simp only [entL, hd, hc]; simp)
              have HEN2 := Lib.hid (show entsL 0 l = (pre ++ entL last y) ++ entsL y.key (l.drop (k + 1)) by rw [HPRE.out, HST.out]; simp)
              have HC := Lib.hid hc
              have HS1' := Lib.hid hS1'
              have HE1 := Lib.hid hE1
              have hx1 : D1.length ≤ 1000000 := by omega
              have hy1 : Q.length ≤ 1000000 := by omega
              clear hS1' hE1 hD1
              have HS2' := Lib.hid hS2'
              have HE2 := Lib.hid hE2
              have hx2 : D2.length ≤ 1000000 := by omega
              have hy2 : E1.length ≤ 1000000 := by omega
              clear hS2' hE2 hD2
              have HS3' := Lib.hid hS3'
              have HE3 := Lib.hid hE3
              have hx3 : D3.length ≤ 1000000 := by omega
              have hy3 : E2.length ≤ 1000000 := by omega
              clear hS3' hE3 hD3
              have HS4' := Lib.hid hS4'
              have HE4 := Lib.hid hE4
              have hx4 : D4.length ≤ 1000000 := by omega
              have hy4 : E3.length ≤ 1000000 := by omega
              clear hS4' hE4 hD4
              have HS5' := Lib.hid hS5'
              have HE5 := Lib.hid hE5
              have hx5 : D5.length ≤ 1000000 := by omega
              have hy5 : E4.length ≤ 1000000 := by omega
              clear hS5' hE5 hD5
              have HS6' := Lib.hid hS6'
              have HE6 := Lib.hid hE6
              have hx6 : D6.length ≤ 1000000 := by omega
              have hy6 : E5.length ≤ 1000000 := by omega
              clear hS6' hE6 hD6
              have HZW := Lib.hid hz1
              clear hec h5 hy hyl hyd ho hd hc hz1
              go_upto_region 20 with (fail)
              rw [← hW1]
              clear hW1 y0 y1 y2 y3 y4 y5 y6
              obtain ⟨y0, y1, y2, y3, y4, y5, y6⟩ := HYC.out _ st0.below
              obtain ⟨r0, r1, r2, r3, r4, r5, -⟩ := zero_cells st0.blk
              go_upto_region 21 with (first
                | (go_at_call 48; (with_reducible refine (HS1'.out _).mono ?_); rintro e w4 ⟨hb4, v4, rfl, ho4⟩; obtain ⟨g4, c4, rfl⟩ := ho4.form hp1'; have stc := st0.call hB2 hb4; have hz4 : B ≤ w4.heap.size := (by have := stc.below.size; omega))
                | (at_builtin; refine wpList_append_bytes rfl (.tmp 73) (.tmp 81) rfl B _ Q rfl stc.own ⟨g4, 0, none⟩ _ c4 D1 rfl rfl (ho4.cells hp1') hy1 hx1 hz4 ?_; intro v5 w5 own5 ht5 hl5; rw [HE1.out] at own5; have st1 := stc.app hB2 own5 ht5 hl5; obtain ⟨s5, c5, rfl⟩ := own5.isSlice))
              clear y0 y1 y2 y3 y4 y5 y6 r0 r1 r2 r3 r4 r5 stc ho4 hb4 ht5 hl5 own5 hz4
              obtain ⟨y0, y1, y2, y3, y4, y5, y6⟩ := HYC.out _ st1.below
              obtain ⟨r0, r1, r2, r3, r4, r5, -⟩ := zero_cells st1.blk
              rw [HC.out] at r0
              go_upto_region 22 with (first
                | (go_at_call 48; (with_reducible refine (HS2'.out _).mono ?_); rintro e w4 ⟨hb4, v4, rfl, ho4⟩; obtain ⟨g4, c4, rfl⟩ := ho4.form hp2'; have stc := st1.call hB2 hb4; have hz4 : B ≤ w4.heap.size := (by have := stc.below.size; omega))
                | (at_builtin; refine wpList_append_bytes rfl (.tmp 83) (.tmp 86) rfl B _ E1 rfl stc.own ⟨g4, 0, none⟩ _ c4 D2 rfl rfl (ho4.cells hp2') hy2 hx2 hz4 ?_; intro v5 w5 own5 ht5 hl5; rw [HE2.out] at own5; have st2 := stc.app hB2 own5 ht5 hl5; obtain ⟨s5, c5, rfl⟩ := own5.isSlice))
              clear y0 y1 y2 y3 y4 y5 y6 r0 r1 r2 r3 r4 r5 stc ho4 hb4 ht5 hl5 own5 hz4
              obtain ⟨y0, y1, y2, y3, y4, y5, y6⟩ := HYC.out _ st2.below
              obtain ⟨r0, r1, r2, r3, r4, r5, -⟩ := zero_cells st2.blk
              go_upto_region 23 with (first
                | (go_at_call 49; (with_reducible refine (HS3'.out _).mono ?_); rintro e w4 ⟨hb4, v4, rfl, ho4⟩; obtain ⟨g4, c4, rfl⟩ := ho4.form hp3'; have stc := st2.call hB2 hb4; have hz4 : B ≤ w4.heap.size := (by have := stc.below.size; omega))
                | (at_builtin; refine wpList_append_bytes rfl (.tmp 88) (.tmp 91) rfl B _ E2 rfl stc.own ⟨g4, 0, none⟩ _ c4 D3 rfl rfl (ho4.cells hp3') hy3 hx3 hz4 ?_; intro v5 w5 own5 ht5 hl5; rw [HE3.out] at own5; have st3 := stc.app hB2 own5 ht5 hl5; obtain ⟨s5, c5, rfl⟩ := own5.isSlice))
              clear y0 y1 y2 y3 y4 y5 y6 r0 r1 r2 r3 r4 r5 stc ho4 hb4 ht5 hl5 own5 hz4
              obtain ⟨y0, y1, y2, y3, y4, y5, y6⟩ := HYC.out _ st3.below
              obtain ⟨r0, r1, r2, r3, r4, r5, -⟩ := zero_cells st3.blk
              go_upto_region 24 with (first
                | (go_at_call 49; (with_reducible refine (HS4'.out _).mono ?_); rintro e w4 ⟨hb4, v4, rfl, ho4⟩; obtain ⟨g4, c4, rfl⟩ := ho4.form hp4'; have stc := st3.call hB2 hb4; have hz4 : B ≤ w4.heap.size := (by have := stc.below.size; omega))
                | (at_builtin; refine wpList_append_bytes rfl (.tmp 93) (.tmp 96) rfl B _ E3 rfl stc.own ⟨g4, 0, none⟩ _ c4 D4 rfl rfl (ho4.cells hp4') hy4 hx4 hz4 ?_; intro v5 w5 own5 ht5 hl5; rw [HE4.out] at own5; have st4 := stc.app hB2 own5 ht5 hl5; obtain ⟨s5, c5, rfl⟩ := own5.isSlice))
              clear y0 y1 y2 y3 y4 y5 y6 r0 r1 r2 r3 r4 r5 stc ho4 hb4 ht5 hl5 own5 hz4
              obtain ⟨y0, y1, y2, y3, y4, y5, y6⟩ := HYC.out _ st4.below
              obtain ⟨r0, r1, r2, r3, r4, r5, -⟩ := zero_cells st4.blk
              go_upto_region 25 with (first
                | (go_at_call 49; (with_reducible refine (HS5'.out _).mono ?_); rintro e w4 ⟨hb4, v4, rfl, ho4⟩; obtain ⟨g4, c4, rfl⟩ := ho4.form hp5'; have stc := st4.call hB2 hb4; have hz4 : B ≤ w4.heap.size := (by have := stc.below.size; omega))
                | (at_builtin; refine wpList_append_bytes rfl (.tmp 98) (.tmp 101) rfl B _ E4 rfl stc.own ⟨g4, 0, none⟩ _ c4 D5 rfl rfl (ho4.cells hp5') hy5 hx5 hz4 ?_; intro v5 w5 own5 ht5 hl5; rw [HE5.out] at own5; have st5 := stc.app hB2 own5 ht5 hl5; obtain ⟨s5, c5, rfl⟩ := own5.isSlice))
              clear y0 y1 y2 y3 y4 y5 y6 r0 r1 r2 r3 r4 r5 stc ho4 hb4 ht5 hl5 own5 hz4
              obtain ⟨y0, y1, y2, y3, y4, y5, y6⟩ := HYC.out _ st5.below
              obtain ⟨r0, r1, r2, r3, r4, r5, -⟩ := zero_cells st5.blk
              go_upto_region 26 with (first
                | (go_at_call 49; (with_reducible refine (HS6'.out _).mono ?_); rintro e w4 ⟨hb4, v4, rfl, ho4⟩; obtain ⟨g4, c4, rfl⟩ := ho4.form hp6'; have stc := st5.call hB2 hb4; have hz4 : B ≤ w4.heap.size := (by have := stc.below.size; omega))
                | (at_builtin; refine wpList_append_bytes rfl (.tmp 103) (.tmp 106) rfl B _ E5 rfl stc.own ⟨g4, 0, none⟩ _ c4 D6 rfl rfl (ho4.cells hp6') hy6 hx6 hz4 ?_; intro v5 w5 own5 ht5 hl5; rw [HE6.out] at own5; have st6 := stc.app hB2 own5 ht5 hl5; obtain ⟨s5, c5, rfl⟩ := own5.isSlice))
              clear y0 y1 y2 y3 y4 y5 y6 r0 r1 r2 r3 r4 r5 stc ho4 hb4 ht5 hl5 own5 hz4
              obtain ⟨y0, y1, y2, y3, y4, y5, y6⟩ := HYC.out _ st6.below
              obtain ⟨r0, r1, r2, r3, r4, r5, -⟩ := zero_cells st6.blk
              have hsz6 := st6.below.size
              go_wp2
              go_roundg (l.length - (k + 1))
              case measure => omega
              case rel => exact ⟨k + 1, y.key, pre ++ entL last y, by omega, rfl, by go_num, rfl, by rw [HEL.out]; exact st6.own, HEN2, HNL, st6.below⟩
            · have hall : Q = bytesL b l := by
                have h1 := HPRE.out
                rw [List.drop_eq_nil_of_le (by omega)] at h1
                have h2 : entsL last [] = [] := by cases l <;> rfl
                rw [h2, List.append_nil] at h1
                rw [← HQ.out, ← h1, HBY.out]
              have HALL := Lib.hid hall
              have HBY2 := Lib.hid (bytes_bytes b l)
              rw [← hall] at HBY2
              have lw : IntKind.i64.wrap ((Q.length : Int) + 4) = (Q.length : Int) + 4 := IntWalk.i64_in _ (by omega)
              have hbwr := HBB.out _ hb
              have hql2 : Q.length ≤ 1000000 := by omega
              have HSE := Lib.hid (sealOf_any (ho.at (by omega)) HBY2.out)
              obtain ⟨S, hS⟩ : ∃ S, sealL Q = S := ⟨_, rfl⟩
              have hsl : S.length = 4 := by rw [← hS]; rfl
              rw [hS] at HSE
              have HS := Lib.hid hS
              have hps : 0 < S.length := by omega
              have hsl2 : S.length ≤ 1000000 := by omega
              clear hall hS
              by_cases hlong : 200000 < Q.length + 4
              · have hd : decide ((200000 : Int) < (Q.length : Int) + 4) = true := by simp; omega
                have HR := Lib.hid (encE_long HMAY.out HL.out HM.out (by rw [← HALL.out]; exact hlong))
                clear hlong
                go_wp2
                go_ret2
                rw [HR.out.1, HR.out.2]
                exact ⟨hbwr, _, rfl, OwnBytes.nil _ _⟩
              · have hd : decide ((200000 : Int) < (Q.length : Int) + 4) = false := by simp; omega
                have HR := Lib.hid (encE_ok HMAY.out HL.out HM.out (by rw [← HALL.out]; exact hlong))
                rw [← HALL.out, HS.out] at HR
                clear hlong hsl
                have hz9 : w.heap.size ≤ B := by have := hbw2.size; have := HBE.out; omega
                go_wp2_with (first
                  | (go_at_call 50; (with_reducible refine HSE.out.mono ?_); rintro e w4 ⟨hb4, v4, rfl, ho4⟩; obtain ⟨g4, c4, rfl⟩ := ho4.form hps; have hb4' := hb.trans (hb4.mono hsz); have ho' := ho.below hb4 (Nat.le_refl _); have hz4 : B ≤ w4.heap.size := (by have := hb4.size; omega))
                  | (at_builtin; refine wpList_append_bytes rfl (.tmp 117) (.tmp 119) rfl B _ Q rfl ho' ⟨g4, 0, none⟩ _ c4 S rfl rfl (ho4.cells hps) hql2 hsl2 hz4 ?_; intro v5 w5 own5 ht5 _; have hb5 := ht5.below hb4' hz4 (fun i hi => (ho'.lt i hi).1)))
                go_ret2
                rw [HR.out.1, HR.out.2]
                exact ⟨HBB.out _ hb5, _, rfl, own5.mono hz9⟩
end Go.Proofs.YtijcaejdgicbmaaDoor
