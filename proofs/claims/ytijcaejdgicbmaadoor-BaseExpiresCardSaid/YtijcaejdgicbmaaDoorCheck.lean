/- The walk of the program's Check of a tree. -/
import Derived.Test.YtijcaejdgicbmaaDoorNodeC
import Derived.Test.YtijcaejdgicbmaaDoorHT
import Derived.Test.YtijcaejdgicbmaaDoorPivot
import Derived.Carry
import Derived.Deep.RegionHeld3
namespace Go.Proofs.YtijcaejdgicbmaaDoor
open Go.RowKit Go.Maps

set_option maxRecDepth 100000 in
set_option maxHeartbeats 1000000 in
theorem treeCheck_any {v : Value} {t : Tr} {w : World} (h : TreeAt w v t) :
    Calls Tryd.prog 69 #[v] w fun e w' => e = .returned (.int .i64 (treeFault t)) ∧ Below w.heap.size w w' := by
  obtain ⟨nv, rfl, hn⟩ := h
  rw [← checkS_eq]
  obtain ⟨⟨ao, cap, rfl⟩, hlen⟩ := hn.len
  by_cases hbig : 2000 < t.nodes.length
  · have HR := Lib.hid (show checkS t = 1 from if_pos hbig)
    go_enter Tryd.func69, Tryd.ntmps69
    go_wp2
    go_ret
    exact ⟨ret_int HR.out.symm, (by repeat (first | exact Below.refl _ _ | assumption | refine below_dn ?_ _ | refine Below.drew ?_ | refine Below.alloc ?_ (by first | omega | (simp; done) | (simp; omega)) _ | refine Below.setCell ?_ (by first | omega | (simp; done) | (simp; omega)) _))⟩
  · have hsm : t.nodes.length ≤ 2000 := by omega
    have HR := Lib.hid (show checkS t = _ from if_neg hbig)
    have hmm := @run_makeMap Tryd.prog
    clear hbig
    go_enter Tryd.func69, Tryd.ntmps69
    go_upto_region 4 with (fail)
    obtain ⟨W3, hW3⟩ : ∃ W3, W3 = ((w.alloc (.cells #[.slice ao t.nodes.length cap, .int .i64 t.root] 25)).alloc (.map #[] 0)).alloc (.cells #[.slice ao t.nodes.length cap, .int .i64 t.root, .map (some (w.heap.size + 1)), .int .i64 0] 122) := ⟨_, rfl⟩
    have hb3 : Below w.heap.size w W3 := by rw [hW3]; exact (by repeat (first | exact Below.refl _ _ | assumption | refine below_dn ?_ _ | refine Below.drew ?_ | refine Below.alloc ?_ (by first | omega | (simp; done) | (simp; omega)) _ | refine Below.setCell ?_ (by first | omega | (simp; done) | (simp; omega)) _))
    have hz3 : W3.heap.size = w.heap.size + 1 + 1 + 1 := by rw [hW3]; simp
    have k0 : W3.heap[w.heap.size]? = some (.cells #[.slice ao t.nodes.length cap, .int .i64 t.root] 25) := by
      rw [hW3, Below.heap_alloc _ _ _ (by simp; omega), Below.heap_alloc _ _ _ (by simp)]; exact heap_new _ _ rfl
    have k2 : W3.heap[w.heap.size + 1 + 1]? = some (.cells #[.slice ao t.nodes.length cap, .int .i64 t.root, .map (some (w.heap.size + 1)), .int .i64 0] 122) := by
      rw [hW3]; exact heap_new _ _ (by simp)
    have hset : SetAt W3 (w.heap.size + 1) [] := by
      have h1 := World.ownsMap_made (H := Unit) (w.alloc (.cells #[.slice ao t.nodes.length cap, .int .i64 t.root] 25)) Tryd.prog 3 (plainElem Tryd.prog 4)
      rw [show (w.alloc (.cells #[.slice ao t.nodes.length cap, .int .i64 t.root] 25)).heap.size = w.heap.size + 1 by simp] at h1
      have h2 : SetAt _ (w.heap.size + 1) [] := h1
      rw [hW3]
      exact h2.turn (X := fun _ => False) ((Turn.refl _ _).alloc _) (fun h => h)
    have hw3 : WalkerAt W3 (w.heap.size + 1 + 1) (w.heap.size + 1) (.slice ao t.nodes.length cap) t.root [] 0 :=
      ⟨by omega, by omega, by simp [World.cell?, k2], by simp [World.cell?, k2], by simp [World.cell?, k2], by simp [World.cell?, k2], fun o => by simp [World.frozen?, k2], hset⟩
    have q1 : W3.cell? ⟨w.heap.size, 1, none⟩ = some (.int .i64 t.root) := by simp [World.cell?, k0]
    have HCALL := Lib.hid (node_any hn (pb := w.heap.size + 1 + 1) (mb := w.heap.size + 1) (by omega) (by omega) 12 (Nat.le_refl _) t.root 0 1099511627776 1 [] 0 W3.drew (by decide) hb3.drew (hw3.turn (X := fun _ => False) (Turn.refl _ _).drew (fun h => h) (fun h => h)) ⟨List.nodup_nil, fun y h => by cases h⟩)
    have HB := Lib.hid fun w5 (ht : Turn (Own2 (w.heap.size + 1 + 1) (w.heap.size + 1)) W3.drew w5) => (ht.below hb3.drew hb3.size (fun i hi => by rcases hi with rfl | rfl <;> omega) : Below w.heap.size w w5)
    have HC0 := Lib.hid fun w5 (ht : Turn (Own2 (w.heap.size + 1 + 1) (w.heap.size + 1)) W3.drew w5) => (by
      have b0 : w5.heap[w.heap.size]? = _ := (ht.block _ (by show w.heap.size < W3.heap.size; omega) (fun h => by rcases h with h | h <;> omega)).trans k0
      simp [World.cell?, b0] : w5.cell? ⟨w.heap.size, 0, none⟩ = some (.slice ao t.nodes.length cap) ∧ w5.cell? ⟨w.heap.size, 1, none⟩ = some (.int .i64 t.root))
    have hs0 : W3.drew.cell? ⟨w.heap.size, 0, none⟩ = some (.slice ao t.nodes.length cap) ∧ W3.drew.cell? ⟨w.heap.size, 1, none⟩ = some (.int .i64 t.root) ∧ W3.drew.cell? ⟨w.heap.size + 1 + 1, 2, none⟩ = some (.map (some (w.heap.size + 1))) := by
      obtain ⟨a, b⟩ := HC0.out _ (Turn.refl _ _)
      exact ⟨a, b, hw3.c2⟩
    rw [← hW3]
    clear hW3 k0 k2 hset hw3 hmm hn
    have HOK := Lib.hid fun S D => nodeS_ok (t := t) 12 t.root 0 1099511627776 ([], 0) (S, D) ⟨List.nodup_nil, fun y h => by cases h⟩
    cases hr : nodeS t 12 t.root 0 1099511627776 ([], 0) with
    | none =>
      rw [hr] at HCALL
      have HR' := Lib.hid (show checkS t = 7 by rw [HR.out, hr])
      clear hr
      refine wp_region_pivot 3 _ rfl (by kernel_rfl) (by kernel_rfl) ?_
      (simp only [List.take_succ_cons, List.take_zero, List.drop_succ_cons, List.drop_zero]; (repeat ((with_reducible refine wpStill_step (fun K hK => ?_)); go_simp; (with_reducible refine hK _ ?_); clear hK K)); (with_reducible refine wpStill_nil ?_))
      intro K hK
      go_simp
      (with_reducible refine HCALL.out.mono ?_); rintro e w5 ⟨ht5, rfl⟩
      go_simp
      refine hK _ _ ?_
      clear hK K
      ((repeat ((with_reducible refine wpStill_step (fun K hK => ?_)); go_simp; (with_reducible refine hK _ ?_); clear hK K)); (with_reducible refine wpStill_nil ?_))
      all_goals
        go_wp2
        go_ret
        exact ⟨ret_int HR'.out.symm, HB.out _ ht5⟩
    | some p =>
      obtain ⟨S, D⟩ := p
      have hok := HOK.out S D hr
      rw [hr] at HCALL
      by_cases hl : S.length = t.nodes.length
      · have HR' := Lib.hid (show checkS t = 0 by rw [HR.out, hr]; exact if_pos hl)
        have hl' : ((S.length : Int) != (t.nodes.length : Int)) = false := by simp [hl]
        have HN := Lib.hid hok.1
        clear hr hok hl
        refine wp_region_pivot 3 _ rfl (by kernel_rfl) (by kernel_rfl) ?_
        (simp only [List.take_succ_cons, List.take_zero, List.drop_succ_cons, List.drop_zero]; (repeat ((with_reducible refine wpStill_step (fun K hK => ?_)); go_simp; (with_reducible refine hK _ ?_); clear hK K)); (with_reducible refine wpStill_nil ?_))
        intro K hK
        go_simp
        (with_reducible refine HCALL.out.mono ?_); rintro e w5 ⟨ht5, rfl, hw5⟩
        have c2 := hw5.c2
        obtain ⟨c0, -⟩ := HC0.out _ ht5
        have hl5 := hw5.set.len HN.out
        go_simp
        refine hK _ _ ?_
        clear hK K
        ((repeat ((with_reducible refine wpStill_step (fun K hK => ?_)); go_simp; (with_reducible refine hK _ ?_); clear hK K)); (with_reducible refine wpStill_nil ?_))
        all_goals
          go_wp2
          go_ret
          exact ⟨ret_int HR'.out.symm, HB.out _ ht5⟩
      · have HR' := Lib.hid (show checkS t = 7 by rw [HR.out, hr]; exact if_neg hl)
        have hl' : ((S.length : Int) != (t.nodes.length : Int)) = true := by simp; omega
        have HN := Lib.hid hok.1
        clear hr hok hl
        refine wp_region_pivot 3 _ rfl (by kernel_rfl) (by kernel_rfl) ?_
        (simp only [List.take_succ_cons, List.take_zero, List.drop_succ_cons, List.drop_zero]; (repeat ((with_reducible refine wpStill_step (fun K hK => ?_)); go_simp; (with_reducible refine hK _ ?_); clear hK K)); (with_reducible refine wpStill_nil ?_))
        intro K hK
        go_simp
        (with_reducible refine HCALL.out.mono ?_); rintro e w5 ⟨ht5, rfl, hw5⟩
        have c2 := hw5.c2
        obtain ⟨c0, -⟩ := HC0.out _ ht5
        have hl5 := hw5.set.len HN.out
        go_simp
        refine hK _ _ ?_
        clear hK K
        ((repeat ((with_reducible refine wpStill_step (fun K hK => ?_)); go_simp; (with_reducible refine hK _ ?_); clear hK K)); (with_reducible refine wpStill_nil ?_))
        all_goals
          go_wp2
          go_ret
          exact ⟨ret_int HR'.out.symm, HB.out _ ht5⟩
end Go.Proofs.YtijcaejdgicbmaaDoor
