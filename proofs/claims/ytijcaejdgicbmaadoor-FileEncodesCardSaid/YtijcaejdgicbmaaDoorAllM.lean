/- The walk of tree.All. -/
import Derived.Test.YtijcaejdgicbmaaDoorAllW
import Derived.Test.YtijcaejdgicbmaaDoorAllOf
import Derived.Laws.EntriesVeiled
namespace Go.Proofs.YtijcaejdgicbmaaDoor
open Go.RowKit

theorem allWalk_any {t : Tr} {tv : Value} {w0 : World} (hn : NodesAt w0 tv t.nodes) {ob : Nat} {lo hi : Int} : ∀ (f : Nat) (n a b : Int) (l : List Int) (h : Nat) (P : List Ent) (w : World), vis t f n a b = some (l, h) → PGood (P ++ walkL t lo hi f n) → AllAt w0 ob tv t.root lo hi w (bagC P) →
      Calls Tryd.prog 70 #[.int .i64 n, .pointer (some ⟨w0.heap.size, 0, none⟩), .pointer (some ⟨w0.heap.size + 1, 0, none⟩), .pointer (some ⟨w0.heap.size + 2, 0, none⟩), .pointer (some ⟨ob + 1, 0, none⟩), .pointer (some ⟨ob, 0, none⟩), .pointer (some ⟨ob + 2, 0, none⟩)] w fun e w' => e = .returned (.tuple #[]) ∧ AllTurn ob w w' ∧ AllAt w0 ob tv t.root lo hi w' (bagC (P ++ walkL t lo hi f n))
  | 0, _, _, _, _, _, _, _, hv, _, _ => by cases hv
  | f + 1, n, a, b, l, h, P, w, hv, hP, hA => allWalk_step hn (fun n a b l h P w hv hP hA => allWalk_any hn f n a b l h P w hv hP hA) hv hP hA
theorem walk_good {t : Tr} {lo hi : Int} (h1 : t.nodes.length ≤ 2000) (hv : ValidT t) : PGood (walkL t lo hi 12 t.root) := by
  have hc := valid_checked hv
  have hr := valid_range hv
  have hl := valid_len hv
  obtain ⟨l, h, e, hn, hl2⟩ := hv
  have hp := (walkL_perm (lo := lo) (hi := hi) _ _ _ _ _ _ e).1
  have hq := (valid_perm e hn hl2).filter (inRange lo hi)
  have hpq := hp.trans hq
  refine ⟨fun e he => hc e ((List.mem_filter.1 (hpq.mem_iff.1 he)).1), fun e he => hr e ((List.mem_filter.1 (hpq.mem_iff.1 he)).1), ?_⟩
  have h2 := hpq.length_eq
  have h3 := List.length_filter_le (inRange lo hi) t.all
  omega

theorem three_new (w : World) (o1 o2 o3 : Obj) : (((w.alloc o1).alloc o2).alloc o3).heap[w.heap.size]? = some o1 ∧ (((w.alloc o1).alloc o2).alloc o3).heap[w.heap.size + 1]? = some o2 ∧ (((w.alloc o1).alloc o2).alloc o3).heap[w.heap.size + 2]? = some o3 := by
  have a1 : ∀ (w : World) (o : Obj), (w.alloc o).heap[w.heap.size]? = some o := fun w o => heap_new _ _ rfl
  have a2 : ∀ (w : World) (o : Obj) (b : Nat), b < w.heap.size → (w.alloc o).heap[b]? = w.heap[b]? := fun w o b h => ((Below.refl w.heap.size w).alloc (Nat.le_refl _) o).block b h
  have sz : ∀ (w : World) (o : Obj), (w.alloc o).heap.size = w.heap.size + 1 := fun w o => by simp
  refine ⟨?_, ?_, ?_⟩
  · rw [a2 _ _ _ (by rw [sz, sz]; omega), a2 _ _ _ (by rw [sz]; omega)]; exact a1 _ _
  · rw [a2 _ _ _ (by rw [sz, sz]; omega)]
    have := a1 (w.alloc o1) o2
    rw [sz] at this; exact this
  · have := a1 ((w.alloc o1).alloc o2) o3
    rw [sz, sz] at this; exact this

set_option maxRecDepth 100000 in
set_option maxHeartbeats 1000000 in
theorem all_any {v : Value} {t : Tr} {lo hi : Int} {w : World} (h : TreeAt w v t) :
    Calls Tryd.prog 31 #[v, .int .i64 lo, .int .i64 hi] w (AllPost w.heap.size w (treeFault t) (allR t lo hi)) := by
  obtain ⟨nv, rfl, hn⟩ := h
  obtain ⟨⟨ao, cap, rfl⟩, hlen⟩ := hn.len
  obtain ⟨W0, hW0⟩ : ∃ W0, W0 = ((w.alloc (.cells #[.slice ao t.nodes.length cap, .int .i64 t.root] 25)).alloc (.cells #[.int .i64 lo] 3)).alloc (.cells #[.int .i64 hi] 3) := ⟨_, rfl⟩
  have hb0 : Below w.heap.size w W0 := by rw [hW0]; exact (by repeat (first | with_reducible exact Below.refl _ _ | with_reducible assumption | with_reducible refine below_dn ?_ _ | with_reducible refine Below.drew ?_ | with_reducible refine Below.alloc ?_ (by first | omega | (simp; done) | (simp; omega) | (simp [drew_size]; done) | (simp [drew_size]; omega)) _ | with_reducible refine Below.setCell ?_ (by first | omega | (simp; done) | (simp; omega) | (simp [drew_size]; done) | (simp [drew_size]; omega)) _))
  have hz0 : W0.heap.size = w.heap.size + 3 := by rw [hW0]; simp
  have hmf : ∀ (fn : Fn) (first cap : Array Value) (w : World), (Instr.makeFunc fn first cap).run Tryd.prog w = .ok (.func fn first cap) w := fun _ _ _ _ => rfl
  have HK := Lib.hid (by rw [hW0]; exact three_new _ _ _ _ :
    W0.heap[w.heap.size]? = some (.cells #[.slice ao t.nodes.length cap, .int .i64 t.root] 25) ∧ W0.heap[w.heap.size + 1]? = some (.cells #[.int .i64 lo] 3) ∧ W0.heap[w.heap.size + 2]? = some (.cells #[.int .i64 hi] 3))
  have HCK := Lib.hid (treeCheck_any (t := t) (w := W0) (v := .agg #[.slice ao t.nodes.length cap, .int .i64 t.root]) ⟨_, rfl, hn.below hb0 (Nat.le_refl _)⟩)
  have HN := Lib.hid hn
  obtain ⟨c0, c1⟩ : W0.cell? ⟨w.heap.size, 0, none⟩ = some (.slice ao t.nodes.length cap) ∧ W0.cell? ⟨w.heap.size, 1, none⟩ = some (.int .i64 t.root) := by simp [World.cell?, HK.out.1]
  clear hn
  go_enter Tryd.func31, Tryd.ntmps31
  go_upto_region 1 with (fail)
  rw [← hW0]
  clear hW0
  by_cases hf : treeFault t = 0
  · rw [hf] at HCK
    have HV := Lib.hid (treeFault_ok hf)
    have HF0 := Lib.hid hf
    go_upto_region 4 with ((go_at_call 69; (with_reducible refine HCK.out.mono ?_); rintro e w1 ⟨rfl, hb1⟩))
    have hz1 : w.heap.size + 3 ≤ w1.heap.size := by have := hb1.size; omega
    obtain ⟨W9, hW9⟩ : ∃ W9, W9 = ((w1.alloc (.cells #[.slice none 0 0] 50)).alloc (.cells #[.int .i64 0] 29)).alloc (.cells #[(.func (.func 70) #[] #[.pointer (some ⟨w.heap.size, 0, none⟩), .pointer (some ⟨w.heap.size + 1, 0, none⟩), .pointer (some ⟨w.heap.size + 2, 0, none⟩), .pointer (some ⟨w1.heap.size + 1, 0, none⟩), .pointer (some ⟨w1.heap.size, 0, none⟩), .pointer (some ⟨w1.heap.size + 2, 0, none⟩)])] 104) := ⟨_, rfl⟩
    have hb9 : Below w1.heap.size w1 W9 := by rw [hW9]; exact (by repeat (first | with_reducible exact Below.refl _ _ | with_reducible assumption | with_reducible refine below_dn ?_ _ | with_reducible refine Below.drew ?_ | with_reducible refine Below.alloc ?_ (by first | omega | (simp; done) | (simp; omega) | (simp [drew_size]; done) | (simp [drew_size]; omega)) _ | with_reducible refine Below.setCell ?_ (by first | omega | (simp; done) | (simp; omega) | (simp [drew_size]; done) | (simp [drew_size]; omega)) _))
    have hz9 : W9.heap.size = w1.heap.size + 3 := by rw [hW9]; simp
    obtain ⟨n1, n2, n3⟩ := (by rw [hW9]; exact three_new _ _ _ _ :
      W9.heap[w1.heap.size]? = some (.cells #[.slice none 0 0] 50) ∧ W9.heap[w1.heap.size + 1]? = some (.cells #[.int .i64 0] 29) ∧ W9.heap[w1.heap.size + 2]? = some (.cells #[(.func (.func 70) #[] #[.pointer (some ⟨w.heap.size, 0, none⟩), .pointer (some ⟨w.heap.size + 1, 0, none⟩), .pointer (some ⟨w.heap.size + 2, 0, none⟩), .pointer (some ⟨w1.heap.size + 1, 0, none⟩), .pointer (some ⟨w1.heap.size, 0, none⟩), .pointer (some ⟨w1.heap.size + 2, 0, none⟩)])] 104))
    have hb01 : Below W0.heap.size W0 W9 := Below.trans' hb1 hb9 hb1.size
    have m0 : W9.heap[w.heap.size]? = _ := (hb01.block _ (by omega)).trans HK.out.1
    have HA := Lib.hid (show AllAt w w1.heap.size (.slice ao t.nodes.length cap) t.root lo hi W9 (bagC []) from
      ⟨Below.trans' hb0 hb01 hb0.size, by omega, by omega, m0, (hb01.block _ (by omega)).trans HK.out.2.1, (hb01.block _ (by omega)).trans HK.out.2.2, n2, n3, _, n1, fun b h => by simp [Value.ownBlock] at h, fun es h => by
        have : es = [] := by simpa [bagC] using h.symm
        subst this; exact OwnEnts.nil _ _⟩)
    have hvt := HV.out.2
    obtain ⟨l, h, hvis, -, -⟩ := hvt
    have HCALL := Lib.hid (allWalk_any HN.out (ob := w1.heap.size) (lo := lo) (hi := hi) 12 t.root _ _ _ _ [] W9 hvis (by rw [List.nil_append]; exact walk_good HV.out.1 HV.out.2) HA.out)
    rw [List.nil_append, all_eq HV.out.2] at HCALL
    have d1 : W9.cell? ⟨w.heap.size, 1, none⟩ = some (.int .i64 t.root) := by simp [World.cell?, m0]
    have d2 : W9.cell? ⟨w1.heap.size + 2, 0, none⟩ = some (.func (.func 70) #[] #[.pointer (some ⟨w.heap.size, 0, none⟩), .pointer (some ⟨w.heap.size + 1, 0, none⟩), .pointer (some ⟨w.heap.size + 2, 0, none⟩), .pointer (some ⟨w1.heap.size + 1, 0, none⟩), .pointer (some ⟨w1.heap.size, 0, none⟩), .pointer (some ⟨w1.heap.size + 2, 0, none⟩)]) := by simp [World.cell?, n3]
    have HFZ := Lib.hid fun w5 st (ha : AllAt w w1.heap.size (.slice ao t.nodes.length cap) t.root lo hi w5 st) => (by
      obtain ⟨v, o1, o2, o3⟩ := ha.out
      exact ⟨v, by simp [World.cell?, o1], by simp [World.cell?, ha.err], ha.below, o3⟩ :
      ∃ v, w5.cell? ⟨w1.heap.size, 0, none⟩ = some v ∧ w5.cell? ⟨w1.heap.size + 1, 0, none⟩ = some (.int .i64 (if st.isSome then 0 else 1)) ∧ Below w.heap.size w w5 ∧ ∀ es, st = some es → OwnEnts (w1.heap.size + 3) w5 v es)
    go_upto_region 8 with (fail)
    rw [show w.heap.size + 1 + 1 = w.heap.size + 2 from rfl, show w1.heap.size + 1 + 1 = w1.heap.size + 2 from rfl, ← hW9]
    clear hW9 n1 n2 n3 m0 hb01 hb9 c0 c1 hvis HA hf
    cases hr : allR t lo hi with
    | none =>
      rw [hr] at HCALL
      have HR := Lib.hid hr
      clear hr
      go_upto_region 10 with ((go_at_call 70; (with_reducible refine HCALL.out.mono ?_); rintro e w5 ⟨rfl, -, ha5⟩; obtain ⟨v5, e0, e1, hb5, -⟩ := HFZ.out _ _ ha5; simp only [Option.isSome_none] at e1))
      go_quiet (fail)
      go_wp2
      exact bodyPost_ret (v := .tuple #[.slice none 0 0, .int .i64 1]) (by simp [results, Tryd.results31, go_sem, *]) rfl ⟨(by repeat (first | with_reducible exact Below.refl _ _ | with_reducible assumption | with_reducible refine below_dn ?_ _ | with_reducible refine Below.drew ?_ | with_reducible refine Below.alloc ?_ (by first | omega | (simp; done) | (simp; omega) | (simp [drew_size]; done) | (simp [drew_size]; omega)) _ | with_reducible refine Below.setCell ?_ (by first | omega | (simp; done) | (simp; omega) | (simp [drew_size]; done) | (simp [drew_size]; omega)) _)), fun h => absurd HF0.out h, fun _ => by rw [HR.out]⟩
    | some es =>
      rw [hr] at HCALL
      have HR := Lib.hid hr
      clear hr
      go_wp2_with ((go_at_call 70; (with_reducible refine HCALL.out.mono ?_); rintro e w5 ⟨rfl, -, ha5⟩; obtain ⟨v5, e0, e1, hb5, ho5⟩ := HFZ.out _ _ ha5; simp only [Option.isSome_some, if_true] at e1; have ho6 := (ho5 es rfl).mono (show w.heap.size ≤ w1.heap.size + 3 by omega); obtain ⟨s5, c5, rfl⟩ := ho6.isSlice))
      exact bodyPost_ret (v := .tuple #[.slice s5 es.length c5, .int .i64 0]) (by simp [results, Tryd.results31, go_sem, *]) rfl ⟨(by repeat (first | with_reducible exact Below.refl _ _ | with_reducible assumption | with_reducible refine below_dn ?_ _ | with_reducible refine Below.drew ?_ | with_reducible refine Below.alloc ?_ (by first | omega | (simp; done) | (simp; omega) | (simp [drew_size]; done) | (simp [drew_size]; omega)) _ | with_reducible refine Below.setCell ?_ (by first | omega | (simp; done) | (simp; omega) | (simp [drew_size]; done) | (simp [drew_size]; omega)) _)), fun h => absurd HF0.out h, fun _ => by rw [HR.out]; exact ⟨_, rfl, (by repeat (first | assumption | with_reducible refine OwnEnts.alloc ?_ _ | with_reducible refine OwnEnts.drewN ?_ _ | with_reducible refine OwnEnts.drew ?_))⟩⟩
  · have d2 : (treeFault t != 0) = true := by simp [hf]
    obtain ⟨F, hF⟩ : ∃ F, treeFault t = F := ⟨_, rfl⟩
    have HF1 := Lib.hid hF
    have HF2 := Lib.hid hf
    rw [hF] at HCK d2
    clear hF hf
    go_wp2_with ((go_at_call 69; (with_reducible refine HCK.out.mono ?_); rintro e w1 ⟨rfl, hb1⟩; have hbw := Below.trans' hb0 hb1 hb0.size))
    exact bodyPost_ret (v := .tuple #[.slice none 0 0, .int .i64 F]) (by simp [results, Tryd.results31, go_sem, *]) rfl ⟨(by repeat (first | with_reducible exact Below.refl _ _ | with_reducible assumption | with_reducible refine below_dn ?_ _ | with_reducible refine Below.drew ?_ | with_reducible refine Below.alloc ?_ (by first | omega | (simp; done) | (simp; omega) | (simp [drew_size]; done) | (simp [drew_size]; omega)) _ | with_reducible refine Below.setCell ?_ (by first | omega | (simp; done) | (simp; omega) | (simp [drew_size]; done) | (simp [drew_size]; omega)) _)), fun _ => by rw [HF1.out], fun h => absurd h HF2.out⟩
end Go.Proofs.YtijcaejdgicbmaaDoor
