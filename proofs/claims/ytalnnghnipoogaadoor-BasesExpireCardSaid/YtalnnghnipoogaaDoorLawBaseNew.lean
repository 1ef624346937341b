/- The walk of base.New; the law BaseNew. -/
import Derived.Test.YtalnnghnipoogaaDoorBK
import Derived.Test.YtalnnghnipoogaaDoorOG
import Derived.Test.YtalnnghnipoogaaDoorCP
namespace Go.Proofs.YtalnnghnipoogaaDoor
open Go.RowKit

def NewIn (M : Nat) (wr : World) (s : Option Addr) (n c : Nat) : Prop := ∃ g, s = some ⟨g, 0, none⟩ ∧ n = 1 ∧ c = 1 ∧ M ≤ g ∧ g < wr.heap.size ∧ wr.heap[g]? = some (.cells #[.bool true, .slice none 0 0, .slice none 0 0, .slice none 0 0, .slice none 0 0] 122)
theorem NewIn.block {M : Nat} {wr w' : World} {s : Option Addr} {n c : Nat} (h : NewIn M wr s n c) (hz : wr.heap.size ≤ w'.heap.size) (hb : ∀ b, M ≤ b → b < wr.heap.size → w'.heap[b]? = wr.heap[b]?) : NewIn M w' s n c := by
  obtain ⟨g, h1, h2, h3, h4, h5, h6⟩ := h
  exact ⟨g, h1, h2, h3, h4, by omega, (hb g h4 h5).trans h6⟩
structure NwAt (w : World) (s0 : Option Addr) (n0 c0 : Nat) (s1 : Option Addr) (n1 c1 : Nat) (s2 : Option Addr) (n2 c2 : Nat) (wr : World) : Prop where
  below : Below w.heap.size w wr
  size : w.heap.size + 2 ≤ wr.heap.size
  res : wr.heap[w.heap.size]? = some (.cells #[.slice none 0 0, .slice none 0 0, .int .i64 0, .slice none 0 0, .int .i64 0, .slice none 0 0, .int .i64 0, .int .i64 0] 28)
  box : wr.heap[w.heap.size + 1]? = some (.cells #[.slice none 0 0, .slice s0 n0 c0, .int .i64 0, .slice s1 n1 c1, .int .i64 0, .slice s2 n2 c2, .int .i64 0, .int .i64 0] 28)
theorem NwAt.step {w : World} {s0 s1 s2 : Option Addr} {n0 c0 n1 c1 n2 c2 : Nat} {wr w5 : World} (h : NwAt w s0 n0 c0 s1 n1 c1 s2 n2 c2 wr) (hb5 : Below wr.heap.size wr w5) {o : Nat} {u v : Value} {cs : Array Value}
    (hcs : ((#[.slice none 0 0, .slice s0 n0 c0, .int .i64 0, .slice s1 n1 c1, .int .i64 0, .slice s2 n2 c2, .int .i64 0, .int .i64 0] : Array Value).setIfInBounds o u).setIfInBounds (o + 1) v = cs) :
    Below w.heap.size w ((w5.setCell ⟨w.heap.size + 1, o, none⟩ u).setCell ⟨w.heap.size + 1, o + 1, none⟩ v) ∧ w.heap.size + 2 ≤ ((w5.setCell ⟨w.heap.size + 1, o, none⟩ u).setCell ⟨w.heap.size + 1, o + 1, none⟩ v).heap.size ∧
      ((w5.setCell ⟨w.heap.size + 1, o, none⟩ u).setCell ⟨w.heap.size + 1, o + 1, none⟩ v).heap[w.heap.size]? = some (.cells #[.slice none 0 0, .slice none 0 0, .int .i64 0, .slice none 0 0, .int .i64 0, .slice none 0 0, .int .i64 0, .int .i64 0] 28) ∧
      ((w5.setCell ⟨w.heap.size + 1, o, none⟩ u).setCell ⟨w.heap.size + 1, o + 1, none⟩ v).heap[w.heap.size + 1]? = some (.cells cs 28) ∧
      (∀ b, w.heap.size + 2 ≤ b → ((w5.setCell ⟨w.heap.size + 1, o, none⟩ u).setCell ⟨w.heap.size + 1, o + 1, none⟩ v).heap[b]? = w5.heap[b]?) := by
  have hsz := h.size
  have hs5 := hb5.size
  have hb : Below w.heap.size w w5 := Below.trans' h.below hb5 h.below.size
  refine ⟨(by repeat (first | with_reducible exact Below.refl _ _ | with_reducible assumption | with_reducible refine below_dn ?_ _ | with_reducible refine Below.drew ?_ | with_reducible refine Below.alloc ?_ (by first | omega | (simp; done) | (simp; omega)) _ | with_reducible refine Below.setCell ?_ (by first | omega | (simp; done) | (simp; omega)) _)), by simp; omega, ?_, ?_, fun b hb => ?_⟩
  · rw [Below.heap_setCell _ _ _ _ (by show w.heap.size ≠ w.heap.size + 1; omega), Below.heap_setCell _ _ _ _ (by show w.heap.size ≠ w.heap.size + 1; omega)]
    exact (hb5.block _ (by omega)).trans h.res
  · rw [← hcs]
    exact heap_setCell_same (heap_setCell_same ((hb5.block _ (by omega)).trans h.box))
  · rw [Below.heap_setCell _ _ _ _ (by show b ≠ w.heap.size + 1; omega), Below.heap_setCell _ _ _ _ (by show b ≠ w.heap.size + 1; omega)]
theorem NwAt.cells {w : World} {s0 s1 s2 : Option Addr} {n0 c0 n1 c1 n2 c2 : Nat} {wr : World} (h : NwAt w s0 n0 c0 s1 n1 c1 s2 n2 c2 wr) : wr.cell? ⟨w.heap.size + 1, 0, none⟩ = some (.slice none 0 0) ∧ wr.cell? ⟨w.heap.size + 1, 1, none⟩ = some (.slice s0 n0 c0) ∧ wr.cell? ⟨w.heap.size + 1, 2, none⟩ = some (.int .i64 0) ∧ wr.cell? ⟨w.heap.size + 1, 3, none⟩ = some (.slice s1 n1 c1) ∧ wr.cell? ⟨w.heap.size + 1, 4, none⟩ = some (.int .i64 0) ∧ wr.cell? ⟨w.heap.size + 1, 5, none⟩ = some (.slice s2 n2 c2) ∧ wr.cell? ⟨w.heap.size + 1, 6, none⟩ = some (.int .i64 0) ∧ wr.cell? ⟨w.heap.size + 1, 7, none⟩ = some (.int .i64 0) ∧ ∀ o, wr.frozen? ⟨w.heap.size + 1, o, none⟩ = false := by
  simp [World.cell?, World.frozen?, h.box]
theorem NwAt.rcells {w : World} {s0 s1 s2 : Option Addr} {n0 c0 n1 c1 n2 c2 : Nat} {wr : World} (h : NwAt w s0 n0 c0 s1 n1 c1 s2 n2 c2 wr) : wr.cell? ⟨w.heap.size, 0, none⟩ = some (.slice none 0 0) ∧ wr.cell? ⟨w.heap.size, 1, none⟩ = some (.slice none 0 0) ∧ wr.cell? ⟨w.heap.size, 2, none⟩ = some (.int .i64 0) ∧ wr.cell? ⟨w.heap.size, 3, none⟩ = some (.slice none 0 0) ∧ wr.cell? ⟨w.heap.size, 4, none⟩ = some (.int .i64 0) ∧ wr.cell? ⟨w.heap.size, 5, none⟩ = some (.slice none 0 0) ∧ wr.cell? ⟨w.heap.size, 6, none⟩ = some (.int .i64 0) ∧ wr.cell? ⟨w.heap.size, 7, none⟩ = some (.int .i64 0) ∧ ∀ o, wr.frozen? ⟨w.heap.size, o, none⟩ = false := by
  simp [World.cell?, World.frozen?, h.res]
def newB : Ba := ⟨[], newT, newT, newT, 0⟩
theorem NewIn.tree {M : Nat} {wr : World} {s : Option Addr} {n c : Nat} (h : NewIn M wr s n c) : NodesAt wr (.slice s n c) newT.nodes := by
  obtain ⟨g, rfl, rfl, rfl, _, _, h6⟩ := h
  exact newNodes h6

set_option maxRecDepth 100000 in
set_option maxHeartbeats 2000000 in
theorem baseNew_keep (w : World) : Calls Tryd.prog 26 #[] w fun e w' => (∃ v', e = .returned v' ∧ ∀ w'', Keep (w.heap.size + 2) w' w'' → BaseAt w'' v' newB) ∧ Below w.heap.size w w' := by
  have HN := Lib.hid fun w' => treeNew_made w'
  obtain ⟨W0, hW0⟩ : ∃ W0, W0 = (w.alloc (.cells #[.slice none 0 0, .slice none 0 0, .int .i64 0, .slice none 0 0, .int .i64 0, .slice none 0 0, .int .i64 0, .int .i64 0] 28)).alloc (.cells #[.slice none 0 0, .slice none 0 0, .int .i64 0, .slice none 0 0, .int .i64 0, .slice none 0 0, .int .i64 0, .int .i64 0] 28) := ⟨_, rfl⟩
  have HST := Lib.hid (show NwAt w none 0 0 none 0 0 none 0 0 W0 by
    refine ⟨by rw [hW0]; exact (by repeat (first | with_reducible exact Below.refl _ _ | with_reducible assumption | with_reducible refine below_dn ?_ _ | with_reducible refine Below.drew ?_ | with_reducible refine Below.alloc ?_ (by first | omega | (simp; done) | (simp; omega)) _ | with_reducible refine Below.setCell ?_ (by first | omega | (simp; done) | (simp; omega)) _)), by rw [hW0]; simp, ?_, ?_⟩
    · rw [hW0, Below.heap_alloc _ _ _ (by simp)]; exact heap_new _ _ rfl
    · rw [hW0]; exact heap_new _ _ (by simp))
  go_enter Tryd.func26, Tryd.ntmps26
  go_upto_region 2 with (fail)
  rw [← hW0]
  clear hW0
  go_wp2_with fail
  go_loopg [4] 3 (fun g i wr => ∃ (k : Nat) (s0 : Option Addr) (n0 c0 : Nat) (s1 : Option Addr) (n1 c1 : Nat) (s2 : Option Addr) (n2 c2 : Nat), k ≤ 3 ∧ g = 3 - k ∧ i = .int .i64 k ∧ Hid (NwAt w s0 n0 c0 s1 n1 c1 s2 n2 c2 wr ∧ (0 < k → NewIn (w.heap.size + 2) wr s0 n0 c0) ∧ (1 < k → NewIn (w.heap.size + 2) wr s1 n1 c1) ∧ (2 < k → NewIn (w.heap.size + 2) wr s2 n2 c2)))
  case atStart => exact ⟨0, _, _, _, _, _, _, _, _, _, by omega, rfl, rfl, Lib.hid ⟨HST.out, fun h => by omega, fun h => by omega, fun h => by omega⟩⟩
  case round =>
    clear HST
    obtain ⟨k, s0, n0, c0, s1, n1, c1, s2, n2, c2, hk, rfl, rfl, HB⟩ := hrel
    obtain ⟨b0, b1, b2, b3, b4, b5, b6, b7, bf⟩ := HB.out.1.cells
    have hsz := HB.out.1.size
    have HMK := Lib.hid (show ∀ (w5 : World) (gg : Nat), Below wr.heap.size wr w5 → wr.heap.size ≤ gg → gg < w5.heap.size → w5.heap[gg]? = some (.cells #[.bool true, .slice none 0 0, .slice none 0 0, .slice none 0 0, .slice none 0 0] 122) → ∀ w6 : World, w5.heap.size ≤ w6.heap.size → (∀ b, w.heap.size + 2 ≤ b → w6.heap[b]? = w5.heap[b]?) → NewIn (w.heap.size + 2) w6 (some ⟨gg, 0, none⟩) 1 1
      from fun w5 gg _ h1 h2 h3 w6 hz hk => ⟨gg, rfl, rfl, rfl, by omega, by omega, (hk gg (by omega)).trans h3⟩)
    have HOLD := Lib.hid (show ∀ w5 : World, Below wr.heap.size wr w5 → ∀ w6 : World, w5.heap.size ≤ w6.heap.size → (∀ b, w.heap.size + 2 ≤ b → w6.heap[b]? = w5.heap[b]?) → ∀ s n c, NewIn (w.heap.size + 2) wr s n c → NewIn (w.heap.size + 2) w6 s n c
      from fun w5 hb5 w6 hz hk s n c h => h.block (w' := w6) (by have := hb5.size; omega) (fun b h1 h2 => (hk b h1).trans (hb5.block b h2)))
    by_cases hlt : k < 3
    · obtain rfl | rfl | rfl : k = 0 ∨ k = 1 ∨ k = 2 := by omega
      · go_wp2_with ((go_at_call 61; (with_reducible refine (HN.out _).mono ?_); rintro e w5 ⟨gg, rfl, hg1, hg2, hg3, hb5⟩; obtain ⟨k1', k2', k3'⟩ := keep1 hb5 (B := w.heap.size + 1) (by omega)))
        go_roundg 2
        case measure => omega
        case rel =>
          obtain ⟨q1, q2, q3, q4, q5⟩ := HB.out.1.step hb5 (o := 1) (u := .slice (some ⟨gg, 0, none⟩) 1 1) (v := .int .i64 0) rfl
          have hz6 : w5.heap.size ≤ ((w5.setCell ⟨w.heap.size + 1, 1, none⟩ (.slice (some ⟨gg, 0, none⟩) 1 1)).setCell ⟨w.heap.size + 1, 1 + 1, none⟩ (.int .i64 0)).heap.size := by simp
          exact ⟨1, _, _, _, _, _, _, _, _, _, by omega, rfl, by go_num, Lib.hid ⟨⟨q1, q2, q3, by simpa using q4⟩, fun _ => HMK.out w5 gg hb5 hg1 hg2 hg3 _ hz6 q5, fun h => by omega, fun h => by omega⟩⟩
      · go_wp2_with ((go_at_call 61; (with_reducible refine (HN.out _).mono ?_); rintro e w5 ⟨gg, rfl, hg1, hg2, hg3, hb5⟩; obtain ⟨k1', k2', k3'⟩ := keep1 hb5 (B := w.heap.size + 1) (by omega)))
        go_roundg 1
        case measure => omega
        case rel =>
          obtain ⟨q1, q2, q3, q4, q5⟩ := HB.out.1.step hb5 (o := 3) (u := .slice (some ⟨gg, 0, none⟩) 1 1) (v := .int .i64 0) rfl
          have hz6 : w5.heap.size ≤ ((w5.setCell ⟨w.heap.size + 1, 3, none⟩ (.slice (some ⟨gg, 0, none⟩) 1 1)).setCell ⟨w.heap.size + 1, 3 + 1, none⟩ (.int .i64 0)).heap.size := by simp
          exact ⟨2, _, _, _, _, _, _, _, _, _, by omega, rfl, by go_num, Lib.hid ⟨⟨q1, q2, q3, by simpa using q4⟩, fun _ => HOLD.out w5 hb5 _ hz6 q5 _ _ _ (HB.out.2.1 (by omega)), fun _ => HMK.out w5 gg hb5 hg1 hg2 hg3 _ hz6 q5, fun h => by omega⟩⟩
      · go_wp2_with ((go_at_call 61; (with_reducible refine (HN.out _).mono ?_); rintro e w5 ⟨gg, rfl, hg1, hg2, hg3, hb5⟩; obtain ⟨k1', k2', k3'⟩ := keep1 hb5 (B := w.heap.size + 1) (by omega)))
        go_roundg 0
        case measure => omega
        case rel =>
          obtain ⟨q1, q2, q3, q4, q5⟩ := HB.out.1.step hb5 (o := 5) (u := .slice (some ⟨gg, 0, none⟩) 1 1) (v := .int .i64 0) rfl
          have hz6 : w5.heap.size ≤ ((w5.setCell ⟨w.heap.size + 1, 5, none⟩ (.slice (some ⟨gg, 0, none⟩) 1 1)).setCell ⟨w.heap.size + 1, 5 + 1, none⟩ (.int .i64 0)).heap.size := by simp
          exact ⟨3, _, _, _, _, _, _, _, _, _, by omega, rfl, by go_num, Lib.hid ⟨⟨q1, q2, q3, by simpa using q4⟩, fun _ => HOLD.out w5 hb5 _ hz6 q5 _ _ _ (HB.out.2.1 (by omega)), fun _ => HOLD.out w5 hb5 _ hz6 q5 _ _ _ (HB.out.2.2.1 (by omega)), fun _ => HMK.out w5 gg hb5 hg1 hg2 hg3 _ hz6 q5⟩⟩
    · obtain rfl : k = 3 := by omega
      obtain ⟨z0, z1, z2, z3, z4, z5, z6, z7, zf⟩ := HB.out.1.rcells
      have hbw := HB.out.1.below
      have HK1 := Lib.hid (show ∀ w'', wr.heap.size ≤ w''.heap.size → (∀ b, w.heap.size + 2 ≤ b → b < wr.heap.size → w''.heap[b]? = wr.heap[b]?) → BaseAt w'' (.agg #[.slice none 0 0, .slice s0 n0 c0, .int .i64 0, .slice s1 n1 c1, .int .i64 0, .slice s2 n2 c2, .int .i64 0, .int .i64 0]) newB from fun w'' hz hk =>
        ⟨_, _, _, _, rfl, SlAt.nil _ _ _ _, ((HB.out.2.1 (by omega)).block hz hk).tree, ((HB.out.2.2.1 (by omega)).block hz hk).tree, ((HB.out.2.2.2 (by omega)).block hz hk).tree⟩)
      go_wp2
      refine bodyPost_ret (v := .agg #[.slice none 0 0, .slice s0 n0 c0, .int .i64 0, .slice s1 n1 c1, .int .i64 0, .slice s2 n2 c2, .int .i64 0, .int .i64 0]) (by simp [results, Tryd.results26, go_sem, *]) rfl ⟨⟨_, rfl, ?_⟩, ?_⟩
      · intro w'' hK
        refine HK1.out _ (Nat.le_trans (by simp) hK.size) fun b hb hb2 => (hK.block b hb (by simpa using hb2)).trans ?_
        repeat rw [Below.heap_setCell _ _ _ _ (by show b ≠ w.heap.size; omega)]
      · exact (by repeat (first | with_reducible exact Below.refl _ _ | with_reducible assumption | with_reducible refine below_dn ?_ _ | with_reducible refine Below.drew ?_ | with_reducible refine Below.alloc ?_ (by first | omega | (simp; done) | (simp; omega)) _ | with_reducible refine Below.setCell ?_ (by first | omega | (simp; done) | (simp; omega)) _))
theorem newB_all : allT newT = some [] := by unfold allT; rw [if_pos newT_fault]; exact newT_all _ _
theorem newB_book : bookR newB = some [] := book_ok (b := newB) newB_all rfl
theorem newB_is : baseIs newB [] 0 [] = true := by
  have h : baseMay newB = true := baseMay_yes ⟨by decide, by decide, by decide, by decide, fun i h => by simp [newB] at h, [], newB_book, fun k _ => by
    rw [treeOk_some (a := []) (c := []) rfl (by unfold Ba.tree; split; exact newB_all; split <;> exact newB_all)]; rfl⟩
  exact (baseIs_eq (b := newB) h rfl rfl newB_book).trans rfl

end Go.Proofs.YtalnnghnipoogaaDoor
