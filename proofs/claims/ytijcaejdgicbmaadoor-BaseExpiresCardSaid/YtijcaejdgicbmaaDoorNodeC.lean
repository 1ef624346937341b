/- The walk of the program's walker: a node that has kids; any node. -/
import Derived.Test.YtijcaejdgicbmaaDoorNodeB
namespace Go.Proofs.YtijcaejdgicbmaaDoor
open Go.RowKit Go.Maps

set_option maxRecDepth 100000 in
set_option maxHeartbeats 2000000 in
theorem node_inner {t : Tr} {nv : Value} {w0 : World} (h0 : NodesAt w0 nv t.nodes) {f : Nat} {n lo hi d : Int} {S : List Int} {D : Int} {w : World} {pb mb : Nat} {x : Nd} (hb0 : Below w0.heap.size w0 w) (hpb : w0.heap.size ≤ pb) (hmb : w0.heap.size ≤ mb) (hw : WalkerAt w pb mb nv t.root S D) (hS : SOk t S) (hd0 : d = 12 - f) (hf : f ≤ 11)
    (IH : ∀ (n lo hi d : Int) (S : List Int) (D : Int) (w : World), d = 13 - f → Below w0.heap.size w0 w → WalkerAt w pb mb nv t.root S D → SOk t S →
      Calls Tryd.prog 86 #[.pointer (some ⟨pb, 0, none⟩), .int .i64 n, .int .i64 lo, .int .i64 hi, .int .i64 d] w (NodePost pb mb nv t.root (nodeS t f n lo hi (S, D)) w))
    (hx : t.at? n = some x) (hnS : n ∉ S) (hleaf : x.leaf = false) :
    Calls Tryd.prog 86 #[.pointer (some ⟨pb, 0, none⟩), .int .i64 n, .int .i64 lo, .int .i64 hi, .int .i64 d] w (NodePost pb mb nv t.root (nodeS t (f + 1) n lo hi (S, D)) w) := by
  have hyes : InnOk x lo hi → nodeS t (f + 1) n lo hi (S, D) = kidsS (fun k a b s => nodeS t f k a b s) x lo hi x.kids 0 (n :: S, D) := fun h => nodeS_inner hx hnS hleaf h
  have hno : ¬ InnOk x lo hi → nodeS t (f + 1) n lo hi (S, D) = none := fun h => nodeS_noinner hx hleaf h
  have hS1 : SOk t (n :: S) := hS.cons hnS hx
  obtain ⟨hn0, hn1, hn2⟩ := at?_get hx
  obtain ⟨j, hj⟩ : ∃ j : Nat, n = j := ⟨n.toNat, by omega⟩
  subst hj
  rw [Int.toNat_natCast] at hn1 hn2
  have hd1 : 1 ≤ d := by omega
  have hd2 : d ≤ 12 := by omega
  obtain ⟨nb, noff, c, ev, kv, dv, bv, rfl, hnb, hE, hK, hD, hB, c0, c1, c2, c3, c4⟩ := node_later h0 hb0 hn2
  have hlen := h0.len.2
  obtain ⟨ae, ne, rfl⟩ := hE.isSlice
  obtain ⟨ak, nk, rfl⟩ := hK.isSlice
  obtain ⟨ad, ndd, rfl⟩ := hD.isSlice
  obtain ⟨ab, nbb, rfl⟩ := hB.isSlice
  obtain ⟨plt, pne, p0, p1, p2, p3, pfr, hset⟩ := hw
  have hbz := hb0.size
  have l1 := hE.len (by decide)
  have l2 := hK.len (by decide)
  have l3 := hD.len (by decide)
  have l4 := hB.len (by decide)
  have hSl := hS.le
  rw [hleaf] at c0
  have hmlt := hset.lt
  have hnm : nb ≠ mb := by omega
  have hnp : nb ≠ pb := by omega
  have hlook := hset.look (n := (j : Int)) (by unfold i64; omega)
  rw [show decide ((j : Int) ∈ S) = false by simp [hnS]] at hlook
  have hkey : keyOf Tryd.prog 3 (.int .i64 (j : Int)) = some (.int .i64 (j : Int)) := keyOf_int_mk Tryd.underlying3 (wf_i64 (by unfold i64; omega))
  have HE := Lib.hid fun w' (hb : Below w0.heap.size w0 w') => rising_any (lo := lo) (hi := hi) (hB.below hb (Nat.le_refl _))
  have HIFF := Lib.hid (innOk_iff (x := x) (lo := lo) (hi := hi))
  have HYES := Lib.hid hyes
  have HNO := Lib.hid hno
  have HIH := Lib.hid IH
  have HD0 := Lib.hid hd0
  have HS1 := Lib.hid hS1
  have HKEY := Lib.hid fun w' (hb : Below w0.heap.size w0 w') (i : Nat) (y : Int) (hy : x.keys[i]? = some y) => IntsAt.get (hK.below hb (Nat.le_refl _)) hy
  have HKID := Lib.hid fun w' (hb : Below w0.heap.size w0 w') (i : Nat) (y : Int) (hy : x.kids[i]? = some y) => IntsAt.get (hD.below hb (Nat.le_refl _)) hy
  clear h0 hE hK hD hB hx hn0 hnS hyes hno hleaf hd0 hS hS1 IH
  obtain ⟨lk, hlk⟩ : ∃ lk, x.keys.length = lk := ⟨_, rfl⟩
  obtain ⟨ld, hld⟩ : ∃ ld, x.kids.length = ld := ⟨_, rfl⟩
  have HLK := Lib.hid hlk
  have HLD := Lib.hid hld
  clear hlk hld
  generalize x.ents.length = le at *
  generalize x.buf.length = lb at *
  generalize entsB x.buf lo hi = be at *
  rw [HLK.out] at c2 l2 HIFF
  rw [HLD.out] at c3 l3 HIFF
  go_enter Tryd.func86, Tryd.ntmps86
  go_upto_region 4 with (first | (at_mapUpdate; refine wpList_mapUpdate_own _ rfl _ _ _ 120 rfl 3 4 Tryd.keyedInt Tryd.underlying120 _ mb S.length (setB S) rfl hset (by unfold maxLen; omega) _ _ (.int .i64 (j : Int)) rfl rfl hkey (.lit (.bool true)) [] (plainElem_bool Tryd.underlying4 true) ?_; intro w1 hown1 hgrow1))
  have ht1 : Turn (Own2 pb mb) w w1 := (Turn.refl _ _).grown hgrow1 (fun k hk => by cases hk; exact .inl (.inr rfl))
  have hset1 : SetAt w1 mb ((j : Int) :: S) := SetAt.put hown1 rfl
  have gz : w.heap.size ≤ w1.heap.size := hgrow1.size
  have gc : ∀ b, b ≠ mb → b < w.heap.size → ∀ o, w1.cell? ⟨b, o, none⟩ = w.cell? ⟨b, o, none⟩ := fun b h1 h2 o => World.cell?_of_block (hgrow1.block b h2 (fun e => h1 (Option.some.inj e.symm).symm))
  have gf : ∀ b, b ≠ mb → b < w.heap.size → ∀ o, w1.frozen? ⟨b, o, none⟩ = w.frozen? ⟨b, o, none⟩ := fun b h1 h2 o => World.frozen?_of_block (hgrow1.block b h2 (fun e => h1 (Option.some.inj e.symm).symm))
  have hnbw : nb < w.heap.size := by omega
  replace p0 := (gc pb pne plt 0).trans p0
  replace p1 := (gc pb pne plt 1).trans p1
  replace p2 := (gc pb pne plt 2).trans p2
  replace p3 := (gc pb pne plt 3).trans p3
  replace pfr := fun o => (gf pb pne plt o).trans (pfr o)
  replace c0 := (gc nb hnm hnbw _).trans c0
  replace c1 := (gc nb hnm hnbw _).trans c1
  replace c2 := (gc nb hnm hnbw _).trans c2
  replace c3 := (gc nb hnm hnbw _).trans c3
  replace c4 := (gc nb hnm hnbw _).trans c4
  have plt1 : pb < w1.heap.size := by omega
  clear gc gf hgrow1 hown1 hlook hset hkey
  have hb1 : Below w0.heap.size w0 w1 := ht1.below hb0 hbz (fun i hi => by rcases hi with rfl | rfl <;> omega)
  go_upto_region 5 with (fail)
  obtain ⟨W2, hW2⟩ : ∃ W2, W2 = w1.alloc (.cells #[.bool false, .slice ae le ne, .slice ak lk nk, .slice ad ld ndd, .slice ab lb nbb] 106) := ⟨_, rfl⟩
  have hn2' : Turn (fun _ => False) w1 W2 := by rw [hW2]; exact (Turn.refl _ _).alloc _
  have k1 : W2.heap[w1.heap.size]? = some (.cells #[.bool false, .slice ae le ne, .slice ak lk nk, .slice ad ld ndd, .slice ab lb nbb] 106) := by
    rw [hW2]; exact heap_new _ _ rfl
  have hw2 : WalkerAt W2 pb mb (.slice (some ⟨nb, noff, none⟩) t.nodes.length c) t.root ((j : Int) :: S) D :=
    (⟨plt1, pne, p0, p1, p2, p3, pfr, hset1⟩ : WalkerAt w1 pb mb _ t.root ((j : Int) :: S) D).turn hn2' (fun h => h) (fun h => h)
  have ht2 : Turn (Own2 pb mb) w W2 := ht1.trans (hn2'.mono (fun _ _ h => h.elim))
  have hb2 : Below w0.heap.size w0 W2 := ht2.below hb0 hbz (fun i hi => by rcases hi with rfl | rfl <;> omega)
  have hz1 : w1.heap.size < W2.heap.size := (Array.getElem?_eq_some_iff.1 k1).1
  rw [← hW2]
  clear hW2 hn2' p0 p1 p2 p3 pfr c0 c1 c2 c3 c4 hset1 hb1 hb0 hn1 hn2
  obtain ⟨x0, x1, x2, x3, x4⟩ : W2.cell? ⟨w1.heap.size, 0, none⟩ = some (.bool false) ∧ W2.cell? ⟨w1.heap.size, 1, none⟩ = some (.slice ae le ne) ∧ W2.cell? ⟨w1.heap.size, 2, none⟩ = some (.slice ak lk nk) ∧ W2.cell? ⟨w1.heap.size, 3, none⟩ = some (.slice ad ld ndd) ∧ W2.cell? ⟨w1.heap.size, 4, none⟩ = some (.slice ab lb nbb) := by
    simp [World.cell?, k1]
  have HW := Lib.hid hw2
  have HT2 := Lib.hid ht2
  have HEW := Lib.hid (HE.out W2 hb2)
  have hwl : IntKind.i64.wrap ((ld : Int) - 1) = (ld : Int) - 1 := IntWalk.i64_in _ (by omega)
  clear hw2 HE
  by_cases hok : InnOk x lo hi
  · have HR := Lib.hid (HYES.out hok)
    obtain ⟨e1, e2, e3, e4, e5, e6⟩ := HIFF.out.1 hok
    subst e1 e6
    have d3 : ((lk : Int) != (ld : Int) - 1) = false := by simp; omega
    have e4a : lk + 1 ≤ ld := by omega
    have e4b : ld ≤ lk + 1 := by omega
    clear hok e4
    go_upto_region 11 with ((go_at_call 95; (with_reducible refine HEW.out.mono ?_); rintro e' w4 ⟨rfl, BE⟩))
    have k4 : w4.heap[w1.heap.size]? = _ := (BE.block _ hz1).trans k1
    have hz4 : w1.heap.size < w4.heap.size := (Array.getElem?_eq_some_iff.1 k4).1
    have ht4 : Turn (fun _ => False) W2 w4 := Turn.of BE (Nat.le_refl _)
    have hb4 : Below w0.heap.size w0 w4 := Below.trans' hb2 BE hb2.size
    have HW4 := Lib.hid (HW.out.turn ht4 (fun h => h) (fun h => h))
    have HC := Lib.hid fun wr (ht : Turn (Own2 pb mb) w4 wr) => (by
      have b1 : wr.heap[w1.heap.size]? = _ := (ht.block _ hz4 (fun h => by rcases h with h | h <;> omega)).trans k4
      simp [World.cell?, b1] :
      wr.cell? ⟨w1.heap.size, 2, none⟩ = some (.slice ak lk nk) ∧ wr.cell? ⟨w1.heap.size, 3, none⟩ = some (.slice ad ld ndd))
    have HB := Lib.hid fun wr (ht : Turn (Own2 pb mb) w4 wr) => (Turn.below (B := w0.heap.size) ht hb4 hb4.size (fun i hi => by rcases hi with rfl | rfl <;> omega) : Below w0.heap.size w0 wr)
    have HT := Lib.hid fun wr (ht : Turn (Own2 pb mb) w4 wr) => ((HT2.out.trans (ht4.mono (fun _ _ h => h.elim))).trans ht : Turn (Own2 pb mb) w wr)
    clear x0 x1 x2 x3 x4 k1 k4 hb2 hb4 ht1 ht2 ht4 BE HEW HNO HYES HIFF HW HT2 hwl d3
    obtain ⟨u2, u3⟩ := HC.out w4 (Turn.refl _ _)
    go_wp2_with fail
    clear u2 u3
    go_loopg [159] ld (fun g i wr => ∃ (k : Nat) (S' : List Int) (D' : Int), k ≤ ld ∧ g = ld - k ∧ i = .int .i64 k ∧ Hid (SOk t S') ∧
      Hid (nodeS t (f + 1) (j : Int) lo hi (S, D) = kidsS (fun k a b s => nodeS t f k a b s) x lo hi (x.kids.drop k) k (S', D')) ∧ Turn (Own2 pb mb) w4 wr ∧ Hid (WalkerAt wr pb mb (.slice (some ⟨nb, noff, none⟩) t.nodes.length c) t.root S' D'))
    case atStart => exact ⟨0, (j : Int) :: S, D, Nat.zero_le _, rfl, rfl, HS1, Lib.hid (by rw [HR.out]; rfl), Turn.refl _ _, HW4⟩
    case round =>
      obtain ⟨k, S', D', hk, rfl, rfl, HS', HREC, ht, HW'⟩ := hrel
      obtain ⟨p2, p3⟩ := HC.out _ ht
      by_cases hlt' : k < ld
      · obtain ⟨K, hK⟩ : ∃ K, x.kids[k]? = some K := ⟨x.kids[k]'(by rw [HLD.out]; exact hlt'), by simp⟩
        obtain ⟨kb, koff, kcap, ke, hkb, hkc⟩ := HKID.out _ (HB.out _ ht) k K hK
        injection ke with ke1 ke2 ke3
        subst ke1 ke3
        obtain ⟨F, hF⟩ : ∃ F, x.from lo k = F := ⟨_, rfl⟩
        obtain ⟨T, hT⟩ : ∃ T, x.upto hi k = T := ⟨_, rfl⟩
        have HSTEP := Lib.hid (HREC.out.trans (kidsS_step (by rw [HLD.out]; exact hlt')))
        have hKe : x.kids[k]'(by rw [HLD.out]; exact hlt') = K := (List.getElem?_eq_some_iff.1 hK).2
        rw [hKe, hF, hT] at HSTEP
        have hLkd : lk ≤ ld := by omega
        have HUP : Hid ((k < lk → x.keys[k]? = some T) ∧ (¬ k < lk → T = hi)) := Lib.hid ⟨fun h => by
            have hlk : k < x.keys.length := by have := HLK.out; omega
            rw [← hT]; simp [Nd.upto, hlk], fun h => by
            have hlk : ¬ k < x.keys.length := by have := HLK.out; omega
            rw [← hT]; simp [Nd.upto, hlk]⟩
        have HFR : Hid ((0 < k → x.keys[k - 1]? = some F) ∧ (k = 0 → F = lo)) := Lib.hid ⟨fun h => by
            have hlk : k - 1 < x.keys.length := by have := HLK.out; omega
            have hk0 : k ≠ 0 := by omega
            rw [← hF]; simp [Nd.from, hk0, hlk], fun h => by
            rw [← hF]; simp [Nd.from, h]⟩
        clear hK hT hF hKe
        go_upto_if 167 with (fail)
        go_cut [14] (fun v wx => v = .int .i64 F ∧ wr = wx)
        case first =>
          by_cases hk2 : 0 < k
          · obtain ⟨b2, off2, cap2, e2, hb2', hc2⟩ := HKEY.out _ (HB.out _ ht) (k - 1) F (HFR.out.1 hk2)
            injection e2 with f1 f2 f3
            subst f1 f3
            have hix := fun w => idx_int (ab := b2) (aoff := off2) (n := lk) (cap := nk) (show (k : Int) - 1 = ((k - 1 : Nat) : Int) by omega) (by omega) w
            have hw1 : IntKind.i64.wrap ((k : Int) - 1) = (k : Int) - 1 := IntWalk.i64_in _ (by omega)
            rw [HLK.out] at *
            clear f2 ke2
            go_wp2
            go_meet
            exact ⟨rfl, rfl⟩
          · obtain rfl : k = 0 := by omega
            have HTE := Lib.hid (HFR.out.2 rfl)
            clear ke2
            go_wp2
            go_meet
            exact ⟨by rw [HTE.out], rfl⟩
        case rest =>
          obtain ⟨rfl, rfl⟩ := hcut
          go_upto_if 178 with (fail)
          go_cut [15] (fun v wx => v = .int .i64 T ∧ wr = wx)
          case first =>
            by_cases hk2 : k < lk
            · obtain ⟨b2, off2, cap2, e2, hb2', hc2⟩ := HKEY.out _ (HB.out _ ht) k T (HUP.out.1 hk2)
              injection e2 with f1 f2 f3
              subst f1 f3
              clear f2 ke2
              go_wp2
              go_meet
              exact ⟨rfl, rfl⟩
            · have HTE := Lib.hid (HUP.out.2 hk2)
              clear ke2
              go_wp2
              go_meet
              exact ⟨by rw [HTE.out], rfl⟩
          case rest =>
            obtain ⟨rfl, rfl⟩ := hcut
            clear p2 p3 ke2
            by_cases g1 : F < T ∧ lo ≤ F ∧ T ≤ hi
            · have HD1 := Lib.hid (show d + 1 = 13 - f by have := HD0.out; omega)
              have hwd : IntKind.i64.wrap (d + 1) = d + 1 := IntWalk.i64_in _ (by omega)
              have HCALL := Lib.hid (HIH.out K F T (d + 1) S' D' wr HD1.out (HB.out _ ht) HW'.out HS'.out)
              obtain ⟨a1, a2, a3⟩ := g1
              cases hR : nodeS t f K F T (S', D') with
              | none =>
                have HRN := Lib.hid (show nodeS t (f + 1) (j : Int) lo hi (S, D) = none by rw [HSTEP.out, if_pos ⟨a1, a2, a3⟩]; simp only [hR])
                rw [hR] at HCALL
                clear hR
                go_wp2_with ((go_at_call 86; (with_reducible refine HCALL.out.mono ?_); rintro e w5 ⟨ht5, rfl⟩))
                go_ret
                rw [HRN.out]
                exact npost_none ((HT.out _ ht).trans ht5) rfl
              | some p =>
                obtain ⟨S2, D2⟩ := p
                have HRS := Lib.hid (show nodeS t (f + 1) (j : Int) lo hi (S, D) = kidsS (fun k a b s => nodeS t f k a b s) x lo hi (x.kids.drop (k + 1)) (k + 1) (S2, D2) by rw [HSTEP.out, if_pos ⟨a1, a2, a3⟩]; simp only [hR])
                have HS2 := Lib.hid (show SOk t S2 from nodeS_ok f K F T (S', D') (S2, D2) HS'.out hR)
                rw [hR] at HCALL
                clear hR
                go_wp2_with ((go_at_call 86; (with_reducible refine HCALL.out.mono ?_); rintro e w5 ⟨ht5, rfl, hw5⟩))
                go_roundg (ld - (k + 1))
                case measure => omega
                case rel => exact ⟨k + 1, S2, D2, by omega, rfl, by go_num, HS2, HRS, ht.trans ht5, Lib.hid hw5⟩
            · have HRN := Lib.hid (show nodeS t (f + 1) (j : Int) lo hi (S, D) = none by rw [HSTEP.out, if_neg g1])
              by_cases a1 : F < T
              · by_cases a2 : lo ≤ F
                · have a3 : hi < T := by omega
                  clear g1
                  go_wp2
                  go_ret
                  rw [HRN.out]
                  exact npost_none (HT.out _ ht) rfl
                · have a2' : F < lo := by omega
                  clear g1
                  go_wp2
                  go_ret
                  rw [HRN.out]
                  exact npost_none (HT.out _ ht) rfl
              · have a1' : T ≤ F := by omega
                clear g1
                go_wp2
                go_ret
                rw [HRN.out]
                exact npost_none (HT.out _ ht) rfl
      · have HRES := Lib.hid (HREC.out.trans (kidsS_end (by rw [HLD.out]; omega)))
        go_wp2
        go_ret
        rw [HRES.out]
        exact npost_some (HT.out _ ht) rfl HW'.out
  · have HR := Lib.hid (HNO.out hok)
    have hiff := HIFF.out
    by_cases g1 : le = 0
    · subst g1
      by_cases g2 : ld ≤ 4
      · by_cases g2' : 2 ≤ ld
        · by_cases g3 : lk + 1 = ld
          · have d3 : ((lk : Int) != (ld : Int) - 1) = false := by simp; omega
            by_cases g4 : lb ≤ 8
            · have hbe : be = false := by
                cases be with
                | false => rfl
                | true => exact absurd (hiff.2 ⟨rfl, g2', g2, g3, g4, rfl⟩) hok
              subst hbe
              clear hok hiff g3 HIFF
              go_wp2_with ((go_at_call 95; (with_reducible refine HEW.out.mono ?_); rintro e' w4 ⟨rfl, BE⟩))
              go_ret
              rw [HR.out]
              exact npost_none (HT2.out.trans (Turn.of BE (Nat.le_refl _))) rfl
            · have g4' : 8 < lb := by omega
              clear hok hiff g3 HIFF
              go_wp2
              go_ret
              rw [HR.out]
              exact npost_none HT2.out rfl
          · have d3 : ((lk : Int) != (ld : Int) - 1) = true := by simp; omega
            clear hok hiff g3 HIFF
            go_wp2
            go_ret
            rw [HR.out]
            exact npost_none HT2.out rfl
        · have g2'' : ld < 2 := by omega
          clear hok hiff HIFF
          go_wp2
          go_ret
          rw [HR.out]
          exact npost_none HT2.out rfl
      · have g2' : 4 < ld := by omega
        clear hok hiff HIFF
        go_wp2
        go_ret
        rw [HR.out]
        exact npost_none HT2.out rfl
    · have g1' : 0 < le := by omega
      clear hok hiff HIFF
      go_wp2
      go_ret
      rw [HR.out]
      exact npost_none HT2.out rfl

/-- 'node', whatever the node. -/
theorem node_any {t : Tr} {nv : Value} {w0 : World} (h0 : NodesAt w0 nv t.nodes) {pb mb : Nat} (hpb : w0.heap.size ≤ pb) (hmb : w0.heap.size ≤ mb) : ∀ (f : Nat), f ≤ 12 → ∀ (n lo hi d : Int) (S : List Int) (D : Int) (w : World), d = 13 - f → Below w0.heap.size w0 w → WalkerAt w pb mb nv t.root S D → SOk t S →
    Calls Tryd.prog 86 #[.pointer (some ⟨pb, 0, none⟩), .int .i64 n, .int .i64 lo, .int .i64 hi, .int .i64 d] w (NodePost pb mb nv t.root (nodeS t f n lo hi (S, D)) w) := by
  intro f
  induction f with
  | zero => intro _ n lo hi d S D w hd hb hw hS; exact node_bad h0 hw hd (by omega) (.inl rfl)
  | succ f ih =>
    intro hf n lo hi d S D w hd hb hw hS
    cases hx : t.at? n with
    | none => exact node_bad h0 hw hd hf (.inr (.inl hx))
    | some x =>
      by_cases hn : n ∈ S
      · exact node_bad h0 hw hd hf (.inr (.inr hn))
      · cases hl : x.leaf with
        | true => exact node_leaf h0 hb hpb hmb hw hS (by omega) (by omega) hx hn hl
        | false => exact node_inner h0 hb hpb hmb hw hS (by omega) (by omega) (fun n lo hi d S D w => ih (by omega) n lo hi d S D w) hx hn hl
end Go.Proofs.YtijcaejdgicbmaaDoor
