/- The walk of the program's walker: a node that is a leaf. -/
import Derived.Test.YtijcaejdgicbmaaDoorNodeA
import Derived.Deep.CutBlock
namespace Go.Proofs.YtijcaejdgicbmaaDoor
open Go.RowKit Go.Maps

/-- The map with one more. -/
theorem SetAt.put {w1 : World} {mb k : Nat} {S : List Int} {n : Int} (h : w1.ownsMap (H := Unit) Tryd.prog 3 (plainElem Tryd.prog 4) mb k ((setB S).put (.int .i64 n) (.lit (.bool true)))) (hk : k = S.length + 1) : SetAt w1 mb (n :: S) := by
  subst hk; exact h

theorem WalkerAt.setD {w : World} {pb mb : Nat} {nv : Value} {root : Int} {S : List Int} {D : Int} (h : WalkerAt w pb mb nv root S D) (d : Int) : WalkerAt (w.setCell ⟨pb, 3, none⟩ (.int .i64 d)) pb mb nv root S d := by
  have ht : Turn (· = pb) w (w.setCell ⟨pb, 3, none⟩ (.int .i64 d)) := Turn.setCell (X := (· = pb)) (Turn.refl _ _) (.inl rfl) _
  refine ⟨by rw [heap_setCell_size]; exact h.lt, h.ne, ?_, ?_, ?_, ?_, fun o => ?_, h.set.turn ht h.ne.symm⟩
  · rw [World.cell?_setCell_other _ _ _ _ (by simp)]; exact h.c0
  · rw [World.cell?_setCell_other _ _ _ _ (by simp)]; exact h.c1
  · rw [World.cell?_setCell_other _ _ _ _ (by simp)]; exact h.c2
  · exact World.cell?_setCell_same' _ _ _ (by rw [h.c3]; rfl)
  · rw [← h.fr o]; simp [World.frozen?, World.setCell, Array.getElem?_modify]
    cases w.heap[pb]? with
    | none => rfl
    | some o => cases o <;> rfl

set_option maxRecDepth 100000 in
set_option maxHeartbeats 2000000 in
theorem node_leaf {t : Tr} {nv : Value} {w0 : World} (h0 : NodesAt w0 nv t.nodes) {f : Nat} {n lo hi d : Int} {S : List Int} {D : Int} {w : World} {pb mb : Nat} {x : Nd} (hb0 : Below w0.heap.size w0 w) (hpb : w0.heap.size ≤ pb) (hmb : w0.heap.size ≤ mb) (hw : WalkerAt w pb mb nv t.root S D) (hS : SOk t S) (hd0 : d = 12 - f) (hf : f ≤ 11) (hx : t.at? n = some x) (hnS : n ∉ S) (hleaf : x.leaf = true) :
    Calls Tryd.prog 86 #[.pointer (some ⟨pb, 0, none⟩), .int .i64 n, .int .i64 lo, .int .i64 hi, .int .i64 d] w (NodePost pb mb nv t.root (nodeS t (f + 1) n lo hi (S, D)) w) := by
  have hyes : (D = 0 ∨ D = d) ∧ LeafOk t n x lo hi → nodeS t (f + 1) n lo hi (S, D) = some (n :: S, d) := fun h => by rw [nodeS_leaf hx hnS hleaf (by rw [← hd0]; exact h.1) h.2, hd0]
  have hno : ¬ ((D = 0 ∨ D = d) ∧ LeafOk t n x lo hi) → nodeS t (f + 1) n lo hi (S, D) = none := fun h => nodeS_noleaf hx hleaf (by rw [← hd0]; exact h)
  obtain ⟨hn0, hn1, hn2⟩ := at?_get hx
  obtain ⟨j, hj⟩ : ∃ j : Nat, n = j := ⟨n.toNat, by omega⟩
  subst hj
  rw [Int.toNat_natCast] at hn1 hn2
  have hd1 : 1 ≤ d := by omega
  have hd2 : d ≤ 12 := by omega
  obtain ⟨nb, noff, c, ev, kv, dv, bv, rfl, hnb, hE, hK, hD, hB, c0, c1, c2, c3, c4⟩ := node_later h0 hb0 hn2
  have hlen := h0.len.2
  obtain ⟨ae, ne, rfl⟩ := hE.isSlice
  obtain ⟨ak, nk, rfl⟩ := hK.isSlice
  obtain ⟨ad, ndd, rfl⟩ := hD.isSlice
  obtain ⟨ab, nbb, rfl⟩ := hB.isSlice
  obtain ⟨plt, pne, p0, p1, p2, p3, pfr, hset⟩ := hw
  have hbz := hb0.size
  have l1 := hE.len (by decide)
  have l2 := hK.len (by decide)
  have l3 := hD.len (by decide)
  have l4 := hB.len (by decide)
  have hSl := hS.le
  rw [hleaf] at c0
  have hmlt := hset.lt
  have hnm : nb ≠ mb := by omega
  have hnp : nb ≠ pb := by omega
  have hlook := hset.look (n := (j : Int)) (by unfold i64; omega)
  rw [show decide ((j : Int) ∈ S) = false by simp [hnS]] at hlook
  have hkey : keyOf Tryd.prog 3 (.int .i64 (j : Int)) = some (.int .i64 (j : Int)) := keyOf_int_mk Tryd.underlying3 (wf_i64 (by unfold i64; omega))
  have HE := Lib.hid fun w' (hb : Below w0.heap.size w0 w') => rising_any (lo := lo) (hi := hi) (hE.below hb (Nat.le_refl _))
  have HIFF := Lib.hid (leafOk_iff (t := t) (n := (j : Int)) (x := x) (lo := lo) (hi := hi))
  have HNIL := Lib.hid fun (h : x.ents.length = 0) => (show entsB x.ents lo hi = true by rw [List.eq_nil_of_length_eq_zero h]; exact entsB_true.2 (entsOk_nil lo hi))
  have HYES := Lib.hid hyes
  have HNO := Lib.hid hno
  clear h0 hE hK hD hB hx hn0 hnS hyes hno hleaf hd0 hS
  generalize x.ents.length = le at *
  generalize x.keys.length = lk at *
  generalize x.kids.length = ld at *
  generalize x.buf.length = lb at *
  generalize entsB x.ents lo hi = be at *
  go_enter Tryd.func86, Tryd.ntmps86
  go_upto_region 4 with (first | (at_mapUpdate; refine wpList_mapUpdate_own _ rfl _ _ _ 120 rfl 3 4 Tryd.keyedInt Tryd.underlying120 _ mb S.length (setB S) rfl hset (by unfold maxLen; omega) _ _ (.int .i64 (j : Int)) rfl rfl hkey (.lit (.bool true)) [] (plainElem_bool Tryd.underlying4 true) ?_; intro w1 hown1 hgrow1))
  have ht1 : Turn (Own2 pb mb) w w1 := (Turn.refl _ _).grown hgrow1 (fun k hk => by cases hk; exact .inl (.inr rfl))
  have hset1 : SetAt w1 mb ((j : Int) :: S) := SetAt.put hown1 rfl
  have gz : w.heap.size ≤ w1.heap.size := hgrow1.size
  have gc : ∀ b, b ≠ mb → b < w.heap.size → ∀ o, w1.cell? ⟨b, o, none⟩ = w.cell? ⟨b, o, none⟩ := fun b h1 h2 o => World.cell?_of_block (hgrow1.block b h2 (fun e => h1 (Option.some.inj e.symm).symm))
  have gf : ∀ b, b ≠ mb → b < w.heap.size → ∀ o, w1.frozen? ⟨b, o, none⟩ = w.frozen? ⟨b, o, none⟩ := fun b h1 h2 o => World.frozen?_of_block (hgrow1.block b h2 (fun e => h1 (Option.some.inj e.symm).symm))
  have hnbw : nb < w.heap.size := by omega
  have p0 := (gc pb pne plt 0).trans p0
  have p1 := (gc pb pne plt 1).trans p1
  have p2 := (gc pb pne plt 2).trans p2
  have p3 := (gc pb pne plt 3).trans p3
  have pfr := fun o => (gf pb pne plt o).trans (pfr o)
  have c0 := (gc nb hnm hnbw _).trans c0
  have c1 := (gc nb hnm hnbw _).trans c1
  have c2 := (gc nb hnm hnbw _).trans c2
  have c3 := (gc nb hnm hnbw _).trans c3
  have c4 := (gc nb hnm hnbw _).trans c4
  have plt1 : pb < w1.heap.size := by omega
  clear gc gf hgrow1 hown1 hlook hset hkey
  have hb1 : Below w0.heap.size w0 w1 := ht1.below hb0 hbz (fun i hi => by rcases hi with rfl | rfl <;> omega)
  go_upto_region 5 with (fail)
  obtain ⟨W2, hW2⟩ : ∃ W2, W2 = w1.alloc (.cells #[.bool true, .slice ae le ne, .slice ak lk nk, .slice ad ld ndd, .slice ab lb nbb] 106) := ⟨_, rfl⟩
  have hn2 : Turn (fun _ => False) w1 W2 := by rw [hW2]; exact (Turn.refl _ _).alloc _
  have k1 : W2.heap[w1.heap.size]? = some (.cells #[.bool true, .slice ae le ne, .slice ak lk nk, .slice ad ld ndd, .slice ab lb nbb] 106) := by
    rw [hW2]; exact heap_new _ _ rfl
  have hw2 : WalkerAt W2 pb mb (.slice (some ⟨nb, noff, none⟩) t.nodes.length c) t.root ((j : Int) :: S) D :=
    (⟨plt1, pne, p0, p1, p2, p3, pfr, hset1⟩ : WalkerAt w1 pb mb _ t.root ((j : Int) :: S) D).turn hn2 (fun h => h) (fun h => h)
  have ht2 : Turn (Own2 pb mb) w W2 := ht1.trans (hn2.mono (fun _ _ h => h.elim))
  have hb2 : Below w0.heap.size w0 W2 := ht2.below hb0 hbz (fun i hi => by rcases hi with rfl | rfl <;> omega)
  have hz1 : w1.heap.size < W2.heap.size := (Array.getElem?_eq_some_iff.1 k1).1
  rw [← hW2]
  clear hW2 hn2 p0 p1 p2 p3 pfr c0 c1 c2 c3 c4 hset1 hb1 hb0
  obtain ⟨D3, hD3⟩ : ∃ D3, D3 = (if D = 0 then d else D) := ⟨_, rfl⟩
  obtain ⟨x0, x1, x2, x3, x4⟩ : W2.cell? ⟨w1.heap.size, 0, none⟩ = some (.bool true) ∧ W2.cell? ⟨w1.heap.size, 1, none⟩ = some (.slice ae le ne) ∧ W2.cell? ⟨w1.heap.size, 2, none⟩ = some (.slice ak lk nk) ∧ W2.cell? ⟨w1.heap.size, 3, none⟩ = some (.slice ad ld ndd) ∧ W2.cell? ⟨w1.heap.size, 4, none⟩ = some (.slice ab lb nbb) := by
    simp [World.cell?, k1]
  have q3 := hw2.c3
  have qlt := hw2.lt
  have qfr := hw2.fr
  have HW := Lib.hid hw2
  clear hw2
  go_upto_if 59 with (fail)
  go_cut [] (fun wx => Turn (Own2 pb mb) W2 wx ∧ (∀ o, wx.cell? ⟨w1.heap.size, o, none⟩ = W2.cell? ⟨w1.heap.size, o, none⟩) ∧ Hid (WalkerAt wx pb mb (.slice (some ⟨nb, noff, none⟩) t.nodes.length c) t.root ((j : Int) :: S) D3))
  case first =>
    by_cases g0 : D = 0
    · subst g0
      rw [if_pos rfl] at hD3
      subst hD3
      go_wp2
      go_meet
      exact ⟨(Turn.refl _ _).setCell (.inl (.inl rfl)) _, fun o => World.cell?_setCell_other _ _ _ _ (by simp), Lib.hid (HW.out.setD _)⟩
    · rw [if_neg g0] at hD3
      subst hD3
      go_wp2
      go_meet
      exact ⟨Turn.refl _ _, fun o => rfl, HW⟩
  case rest =>
    obtain ⟨ht3, hsame, HW3⟩ := hcut
    have y1 := (hsame 1).trans x1
    have y2 := (hsame 2).trans x2
    have y3 := (hsame 3).trans x3
    have y4 := (hsame 4).trans x4
    have z1 := HW3.out.c1
    have z3 := HW3.out.c3
    have hb3 : Below w0.heap.size w0 wc := ht3.below hb2 hb2.size (fun i hi => by rcases hi with rfl | rfl <;> omega)
    have HT3 := Lib.hid (ht2.trans ht3)
    have HEW := Lib.hid (HE.out wc hb3)
    have HD3 := Lib.hid hD3
    clear x0 x1 x2 x3 x4 k1 hb2 hb3 ht2 ht3 hsame HE hD3 q3 qlt qfr p0 p1 p2 p3 pfr c0 c1 c2 c3 c4 hnp hpb hmb
    by_cases g0 : D3 = d
    · have hd : D = 0 ∨ D = d := by
        have := HD3.out
        by_cases h : D = 0
        · exact .inl h
        · rw [if_neg h] at this; right; omega
      subst g0
      have e0 : (D3 == D3) = true := by simp
      by_cases g1 : lk + ld + lb = 0
      · obtain ⟨rfl, rfl, rfl⟩ : lk = 0 ∧ ld = 0 ∧ lb = 0 := by omega
        by_cases g2 : le ≤ 6
        · by_cases g3 : le = 0
          · subst g3
            have hbe : be = true := HNIL.out rfl
            subst hbe
            by_cases g4 : (j : Int) = t.root
            · have HR := Lib.hid (HYES.out ⟨hd, HIFF.out.2 ⟨by omega, by omega, fun _ => g4, rfl⟩⟩)
              have dr : ((j : Int) == t.root) = true := by simp [g4]
              clear g1 g2 g4 hd
              go_wp2_with ((go_at_call 95; (with_reducible refine HEW.out.mono ?_); rintro e' w4 ⟨rfl, BE⟩))
              go_ret
              rw [HR.out]
              exact npost_some (HT3.out.trans (Turn.of BE (Nat.le_refl _))) rfl (HW3.out.turn (X := fun _ => False) (Turn.of BE (Nat.le_refl _)) (fun h => h) (fun h => h))
            · have HR := Lib.hid (HNO.out (fun h => g4 ((HIFF.out.1 h.2).2.2.1 rfl)))
              have dr : ((j : Int) == t.root) = false := by simp [g4]
              clear g1 g2 g4 hd
              go_wp2
              go_ret
              rw [HR.out]
              exact npost_none HT3.out rfl
          · have g3' : 0 < le := by omega
            cases be with
            | true =>
              have HR := Lib.hid (HYES.out ⟨hd, HIFF.out.2 ⟨by omega, by omega, fun h => absurd h g3, rfl⟩⟩)
              clear g1 hd
              go_wp2_with ((go_at_call 95; (with_reducible refine HEW.out.mono ?_); rintro e' w4 ⟨rfl, BE⟩))
              go_ret
              rw [HR.out]
              exact npost_some (HT3.out.trans (Turn.of BE (Nat.le_refl _))) rfl (HW3.out.turn (X := fun _ => False) (Turn.of BE (Nat.le_refl _)) (fun h => h) (fun h => h))
            | false =>
              have HR := Lib.hid (HNO.out (fun h => by have := (HIFF.out.1 h.2).2.2.2; cases this))
              clear g1 hd
              go_wp2_with ((go_at_call 95; (with_reducible refine HEW.out.mono ?_); rintro e' w4 ⟨rfl, BE⟩))
              go_ret
              rw [HR.out]
              exact npost_none (HT3.out.trans (Turn.of BE (Nat.le_refl _))) rfl
        · have HR := Lib.hid (HNO.out (fun h => g2 (HIFF.out.1 h.2).2.1))
          have g2' : 6 < le := by omega
          clear g1 g2 hd
          go_wp2
          go_ret
          rw [HR.out]
          exact npost_none HT3.out rfl
      · have HR := Lib.hid (HNO.out (fun h => g1 (HIFF.out.1 h.2).1))
        by_cases g5 : lk = 0
        · by_cases g6 : ld = 0
          · have g7 : 0 < lb := by omega
            clear g1 hd
            go_wp2
            go_ret
            rw [HR.out]
            exact npost_none HT3.out rfl
          · have g7 : 0 < ld := by omega
            clear g1 hd
            go_wp2
            go_ret
            rw [HR.out]
            exact npost_none HT3.out rfl
        · have g7 : 0 < lk := by omega
          clear g1 hd
          go_wp2
          go_ret
          rw [HR.out]
          exact npost_none HT3.out rfl
    · have HR := Lib.hid (HNO.out (fun h => by
        have := HD3.out
        rcases h.1 with h0 | h0
        · rw [if_pos h0] at this; exact g0 this
        · by_cases h1 : D = 0
          · rw [if_pos h1] at this; exact g0 this
          · rw [if_neg h1] at this; exact g0 (this.trans h0)))
      have e0 : (D3 == d) = false := by simp [g0]
      go_wp2
      go_ret
      rw [HR.out]
      exact npost_none HT3.out rfl
end Go.Proofs.YtijcaejdgicbmaaDoor
