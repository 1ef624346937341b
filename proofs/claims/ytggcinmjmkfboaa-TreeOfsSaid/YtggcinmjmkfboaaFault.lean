/- The walk of the document's TreeFault. -/
import Derived.Test.YtggcinmjmkfboaaHeightC
import Derived.Laws.OwnMore
import Derived.OwnWalk
namespace Go.Proofs.Ytggcinmjmkfboaa
open Go.RowKit

theorem Try.iInt0 : (Try.prog.info? 3).map (fun i => (i.zero, i.size, i.bytes)) = some (some (.int .i64 0), 1, 8) := by kernel_rfl

theorem seen_made {w : World} {B sb n : Nat} {e : TypeId} (h : w.ownsRow B e 1 (.slice (some ⟨sb, 0, none⟩) n n) n (madeCells #[.int .i64 0] (n * 1)).toList) : SeenAt w sb n [] := by
  · obtain ⟨hl, ⟨h0, _⟩ | ⟨g, cap, cur, e1, hb, hg, h1, h2, h3, h4⟩⟩ := h
    · cases h0
    · injection e1 with e1 e2 e3
      injection e1 with e1; injection e1 with e1
      subst e1 e3
      refine ⟨(Array.getElem?_eq_some_iff.1 hg).1, fun i hi => ⟨?_, by simp [World.frozen?, hg]⟩⟩
      have hf : (madeCells #[.int .i64 0] (n * 1)).toList[i]? = some (.int .i64 0) := by
        rw [toList_madeCells_one, List.getElem?_replicate, if_pos (by omega)]
      rw [← h4, List.getElem?_take, if_pos (by omega)] at hf
      simp only [World.cell?, hg]
      simpa using hf

theorem tree_at {t : Tr} {w : World} {v : Value} (h : TreeAt w v t) : ∃ nv, v = .agg #[nv, .int .i64 t.root] ∧ NodesAt w nv t.nodes := h

set_option maxRecDepth 100000 in
set_option maxHeartbeats 1000000 in
theorem treeFault_any {v : Value} {t : Tr} {w : World} (h : TreeAt w v t) :
    Calls Try.prog 32 #[v] w fun e w' => e = .returned (.int .i64 (treeFault t)) ∧ Below w.heap.size w w' := by
  obtain ⟨nv, rfl, hn⟩ := h
  rw [← faultS_eq]
  obtain ⟨⟨ao, cap, rfl⟩, hlen⟩ := hn.len
  by_cases hbig : 2000 < t.nodes.length
  · have HR := Lib.hid (show faultS t = 1 from if_pos hbig)
    go_enter Try.func32, Try.ntmps32
    go_wp2
    go_ret
    exact ⟨ret_int HR.out.symm, (by repeat (first | exact Below.refl _ _ | assumption | refine below_dn ?_ _ | refine Below.drew ?_ | refine Below.alloc ?_ (by first | omega | (simp; done) | (simp; omega)) _ | refine Below.setCell ?_ (by first | omega | (simp; done) | (simp; omega)) _))⟩
  · have hsm : t.nodes.length ≤ 2000 := by omega
    have HR := Lib.hid (show faultS t = _ from if_neg hbig)
    obtain ⟨i0, hi, hz0, hz1, hz2⟩ := info_parts Try.iInt0
    clear hbig
    go_enter Try.func32, Try.ntmps32
    go_upto_region 4 with (first | (at_make; refine wpList_make_full _ rfl _ _ 57 rfl (w.heap.size + 1) 3 i0 (.int .i64 0) 1 Try.underlying57 hi hz0 hz1 _ _ _ _ t.nodes.length rfl rfl rfl rfl (by rw [hz2]; omega) (by unfold maxLen; omega) (by simp) ?_; intro w1 hown hgrow))
    have hw0 : (w.alloc (.cells #[.slice ao t.nodes.length cap, .int .i64 t.root] 25)).heap.size = w.heap.size + 1 := by simp
    rw [hw0] at hown
    have hb1 : Below w.heap.size w w1 := Below.grown ((Below.refl _ _).alloc (Nat.le_refl _) _) hgrow (by simp) (fun _ h => by cases h)
    have hs1 := seen_made hown
    have q0 : w1.cell? ⟨w.heap.size, 0, none⟩ = some (.slice ao t.nodes.length cap) ∧ w1.cell? ⟨w.heap.size, 1, none⟩ = some (.int .i64 t.root) := by
      have hk : w1.heap[w.heap.size]? = some (.cells #[.slice ao t.nodes.length cap, .int .i64 t.root] 25) := (hgrow.block _ (by simp) (by simp)).trans (heap_new _ _ rfl)
      simp [World.cell?, hk]
    obtain ⟨q0, q1⟩ := q0
    have HCALL := Lib.hid (height_any hn (sb := w.heap.size + 1) (by omega) 12 (Nat.le_refl _) t.root 0 1099511627776 1 [] w1 t.nodes.length (by decide) hb1 hs1 (by omega) (by omega))
    have hz := fun h S (e : heightR t 12 t.root 0 1099511627776 [] = some (h, S)) => (heightR_pos (by omega) e).1
    clear hown hgrow hs1 hw0 hi hz0 hz1 hz2 hn
    cases hr : heightR t 12 t.root 0 1099511627776 [] with
    | none =>
      rw [hr] at HCALL
      have HR' := Lib.hid (show faultS t = 7 by rw [HR.out, hr])
      clear hr hz
      go_wp2_with ((go_at_call 43; (with_reducible refine HCALL.out.mono ?_); rintro e w2 ⟨ht2, rfl⟩))
      go_ret
      exact ⟨ret_int HR'.out.symm, ht2.below hb1 hb1.size (fun i hi => by omega)⟩
    | some p =>
      obtain ⟨h, S⟩ := p
      rw [hr] at HCALL
      have hh := hz h S hr
      have hh0 : (h == 0) = false := by simp; omega
      have HR' := Lib.hid (show faultS t = if ∀ i : Nat, i < t.nodes.length → (i : Int) ∈ S then 0 else 7 by rw [HR.out, hr])
      clear hr hz
      go_wp2_with ((go_at_call 43; (with_reducible refine HCALL.out.mono ?_); rintro e w2 ⟨ht2, rfl, hs2⟩))
      have hb2 : Below w.heap.size w w2 := ht2.below hb1 hb1.size (fun i hi => by omega)
      go_loopg [4] t.nodes.length (fun g i wr => ∃ k : Nat, k ≤ t.nodes.length ∧ g = t.nodes.length - k ∧ i = .int .i64 k ∧ (∀ i : Nat, i < k → (i : Int) ∈ S) ∧ w2 = wr)
      case atStart => exact ⟨0, Nat.zero_le _, rfl, rfl, fun i hi => by omega, rfl⟩
      case round =>
        obtain ⟨k, hk, rfl, rfl, HA, rfl⟩ := hrel
        have HA' := Lib.hid HA
        clear HA
        by_cases hlt : k < t.nodes.length
        · obtain ⟨s0, -⟩ := hs2.2 k hlt
          have hix := fun w' => idx_int (ab := w.heap.size + 1) (aoff := 0) (n := t.nodes.length) (cap := t.nodes.length) (show (k : Int) = ((k : Nat) : Int) by rfl) hlt w'
          by_cases hks : (k : Int) ∈ S
          · rw [if_pos hks] at s0
            have HS := Lib.hid hks
            clear hks
            go_wp2
            go_roundg (t.nodes.length - (k + 1))
            case measure => omega
            case rel => exact ⟨k + 1, by omega, rfl, by go_num, fun i hi => by by_cases h : i = k; · rw [h]; exact HS.out
                                                                               · exact HA'.out i (by omega), rfl⟩
          · rw [if_neg hks] at s0
            have HS := Lib.hid (show faultS t = 7 by rw [HR'.out]; exact if_neg fun h => hks (h k hlt))
            clear hks
            go_wp2
            go_ret
            exact ⟨ret_int HS.out.symm, hb2⟩
        · have HS := Lib.hid (show faultS t = 0 by rw [HR'.out]; exact if_pos fun i hi => HA'.out i (by omega))
          go_wp2
          go_ret
          exact ⟨ret_int HS.out.symm, hb2⟩
end Go.Proofs.Ytggcinmjmkfboaa
