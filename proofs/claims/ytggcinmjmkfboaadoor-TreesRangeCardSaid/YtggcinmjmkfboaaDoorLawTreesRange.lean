/- The law TreesRange: a range is what of all is within it, and two side by side are one. -/
import Derived.Test.YtggcinmjmkfboaaDoorKT
import Derived.Test.YtggcinmjmkfboaaDoorSort3
import Derived.Test.YtggcinmjmkfboaaDoorPS
import Derived.Test.YtggcinmjmkfboaaDoorRG
import Derived.Test.YtggcinmjmkfboaaDoorTells
import Derived.Lib.AppendZeros
namespace Go.Proofs.YtggcinmjmkfboaaDoor
open Go.RowKit

theorem range_split {a b c : Int} (h1 : a ≤ b) (h2 : b ≤ c) : ∀ {L : List Ent}, Rising L → L.filter (inRange a b) ++ L.filter (inRange b c) = L.filter (inRange a c)
  | [], _ => rfl
  | e :: L, hr => by
    have hp := List.pairwise_cons.1 hr
    have ih := range_split h1 h2 hp.2
    by_cases g1 : e.key < b
    · have n1 : inRange b c e = false := by simp [inRange]; omega
      have n2 : inRange a b e = inRange a c e := by unfold inRange; congr 1; simp; omega
      rw [List.filter_cons, List.filter_cons (p := inRange b c), List.filter_cons (p := inRange a c), n1, n2]
      cases inRange a c e <;> simp [ih]
    · have n1 : inRange a b e = false := by simp [inRange]; omega
      have n2 : inRange b c e = inRange a c e := by unfold inRange; congr 1; simp; omega
      have n3 : L.filter (inRange a b) = [] := List.filter_eq_nil_iff.2 fun x hx => by have := hp.1 x hx; simp [inRange]; omega
      rw [n3, List.nil_append] at ih
      rw [List.filter_cons, List.filter_cons (p := inRange b c), List.filter_cons (p := inRange a c), n1, n2, n3, ih]
      simp
/-- An append whose run is known, at an operation that a guard lets by. -/
theorem wpList_append_wanted {P : Program} (w : World) {ops : Array Oper} {rest : List Oper} {o : Oper} {a : Act} {Q : Exit → Act → World → Prop} (hw : Region.wanted o (yielded ops a.tmps) = true) (s x : Operand) (t tn : TypeId)
    (ho : o.op = .call { callee := .builtin .append, args := #[s, x], argTypes := #[t, tn] }) (vs vx : Value) (hs : a.eval s = vs) (hx : a.eval x = vx)
    (v' : Value) (w' : World) (hr : (Builtin.append_ #[t, tn] o.type #[vs, vx]).run P w = .ok v' w') (h : wpList P ops Q rest (a.put o.dst v') w') : wpList P ops Q (o :: rest) a w := by
  refine wpList_step fun K hK => ?_
  rw [if_pos hw]
  exact Go.Lib.wp_append_run w s x t tn ho vs vx hs hx v' w' hr (hK _ _ h)
theorem range_none {a c : Int} (h : a ≤ c) (L : List Ent) : L.filter (inRange c a) = [] := List.filter_eq_nil_iff.2 fun x _ => by simp [inRange]; omega
set_option maxRecDepth 100000 in
set_option maxHeartbeats 4000000 in
theorem treesRange_any {v : Value} {xs : List Rw} {a b c : Int} {w : World} (h : RwsAt w v xs) (hx : ∀ a ∈ xs, a.ok) (ha : -9223372036854775808 ≤ a ∧ a ≤ 9223372036854775807) (hb : -9223372036854775808 ≤ b ∧ b ≤ 9223372036854775807) (hc : -9223372036854775808 ≤ c ∧ c ≤ 9223372036854775807) (hsz : SizesAt w) :
    Calls Tryd.prog 12 #[v, .int .i64 a, .int .i64 b, .int .i64 c] w fun e w' => e = .returned (.bool true) ∧ Below w.heap.size w w' := by
  obtain ⟨ao, cap, rfl⟩ := h.isSlice
  have HT := Lib.hid (tells_any hsz)
  have HKT := Lib.hid fun W (hb : Below w.heap.size w W) => kTree_any (many := 120) (h.below hb (Nat.le_refl _)) hx (by decide)
  obtain ⟨A0, hA⟩ : ∃ q, picked a 130 = q := ⟨_, rfl⟩
  obtain ⟨B0, hB⟩ : ∃ q, picked b 130 = q := ⟨_, rfl⟩
  obtain ⟨C0, hC⟩ : ∃ q, picked c 130 = q := ⟨_, rfl⟩
  have hAr := picked_range (n := a) (m := 130) (by decide)
  have hBr := picked_range (n := b) (m := 130) (by decide)
  have hCr := picked_range (n := c) (m := 130) (by decide)
  have HPA := Lib.hid fun W => picked_any2 a 130 W ha.1 ha.2 (by decide) (by decide)
  have HPB := Lib.hid fun W => picked_any2 b 130 W hb.1 hb.2 (by decide) (by decide)
  have HPC := Lib.hid fun W => picked_any2 c 130 W hc.1 hc.2 (by decide) (by decide)
  rw [hA] at hAr HPA
  rw [hB] at hBr HPB
  rw [hC] at hCr HPC
  have HRG := Lib.hid (And.intro hAr (And.intro hBr hCr))
  clear h hx hsz ha hb hc hA hB hC hAr hBr hCr
  go_enter Tryd.func12, Tryd.ntmps12
  go_upto_region 3 with (go_at_call 13; (with_reducible refine HT.out.mono ?_); rintro e w1 ⟨rfl, hb1⟩)
  have HB1 := Lib.hid hb1
  clear hb1
  go_upto_region 4 with (go_at_call 17; (with_reducible refine (HKT.out _ HB1.out).mono ?_); rintro e w2 ⟨hb2, s, n, c, t, mb, E, rfl, hm1, hm2, hkt, hg, hke, hel, hmap⟩)
  obtain ⟨W2, hW2⟩ : ∃ W2, W2 = w2.alloc (.cells #[.slice s n c, .int .i64 t.root] 36) := ⟨_, rfl⟩
  have hb2' : Below w2.heap.size w2 W2 := by rw [hW2]; exact (by repeat (first | with_reducible exact Below.refl _ _ | with_reducible assumption | with_reducible refine below_dn ?_ _ | with_reducible refine Below.drew ?_ | with_reducible refine Below.alloc ?_ (by first | omega | (simp; done) | (simp; omega) | (simp [drew_size]; done) | (simp [drew_size]; omega)) _ | with_reducible refine Below.setCell ?_ (by first | omega | (simp; done) | (simp; omega) | (simp [drew_size]; done) | (simp [drew_size]; omega)) _))
  have k2 : W2.heap[w2.heap.size]? = some (.cells #[.slice s n c, .int .i64 t.root] 36) := by rw [hW2]; exact heap_new _ _ rfl
  have hs1 := HB1.out.size
  have hs2 := hb2.size
  have hz2 : W2.heap.size = w2.heap.size + 1 := by rw [hW2]; simp
  have HB2 := Lib.hid (Below.trans' (Below.trans' HB1.out hb2 hs1) hb2' (by omega))
  have HTR := Lib.hid fun W (hb : Below W2.heap.size W2 W) => hkt W (Keep.of (Below.trans' hb2' hb (by omega)) (Nat.le_refl _))
  have HTC := Lib.hid fun W (hb : Below W2.heap.size W2 W) => (show W.cell? ⟨w2.heap.size, 0, none⟩ = some (.slice s n c) ∧ W.cell? ⟨w2.heap.size, 1, none⟩ = some (.int .i64 t.root) from by
    have a2 := (hb.block w2.heap.size (by omega)).trans k2
    simp [World.cell?, a2])
  have hsE : Small E := hke.small (by omega)
  have hbl : (bag E).length ≤ 150 := Nat.le_trans (bag_len (m := [])) (by simpa using hel)
  have hkn := hg.knows hsE
  have hbr := bag_rising hg.goods
  obtain ⟨L, hL⟩ : ∃ L, bag E = L := ⟨_, rfl⟩
  rw [hL] at hkn hbr hbl
  have HL := Lib.hid (And.intro hkn (And.intro hbr hbl))
  rw [← hW2]
  obtain ⟨tb, htb⟩ : ∃ tb, w2.heap.size = tb := ⟨_, rfl⟩
  rw [htb] at HTC ⊢
  clear hW2 hb2 hb2' k2 hkt hg hke hel hmap hm1 hm2 HKT HT hs1 hs2 hz2 htb hsE hkn hbr hbl hL
  go_upto_region 5 with (first
    | (go_at_call 18; (with_reducible refine (HPA.out _).mono ?_); rintro e w3 ⟨rfl, hb3⟩)
    | (go_at_call 18; (with_reducible refine (HPB.out _).mono ?_); rintro e w4 ⟨rfl, hb4⟩)
    | (go_at_call 18; (with_reducible refine (HPC.out _).mono ?_); rintro e w5 ⟨rfl, hb5⟩))
  obtain ⟨W5, hW5⟩ : ∃ W', W' = w5.alloc (.cells #[.int .i64 A0, .int .i64 B0, .int .i64 C0] 3) := ⟨_, rfl⟩
  have hb5' : Below w5.heap.size w5 W5 := by rw [hW5]; exact (by repeat (first | with_reducible exact Below.refl _ _ | with_reducible assumption | with_reducible refine below_dn ?_ _ | with_reducible refine Below.drew ?_ | with_reducible refine Below.alloc ?_ (by first | omega | (simp; done) | (simp; omega) | (simp [drew_size]; done) | (simp [drew_size]; omega)) _ | with_reducible refine Below.setCell ?_ (by first | omega | (simp; done) | (simp; omega) | (simp [drew_size]; done) | (simp [drew_size]; omega)) _))
  have k5 : W5.heap[w5.heap.size]? = some (.cells #[.int .i64 A0, .int .i64 B0, .int .i64 C0] 3) := by rw [hW5]; exact heap_new _ _ rfl
  have hs3 := hb3.size
  have hs4 := hb4.size
  have hs5 := hb5.size
  have HB5 := Lib.hid (show Below W2.heap.size W2 W5 from Below.trans' (Below.trans' (Below.trans' hb3 hb4 hs3) hb5 (Nat.le_trans hs3 hs4)) hb5' (by omega))
  have HS := Lib.hid (sort3_any (cap := 3) (Q := fun q => 0 ≤ q ∧ q < 130) (show Row3 W5 w5.heap.size (fun q => 0 ≤ q ∧ q < 130) W5 A0 B0 C0 from ⟨k5, HRG.out.1, HRG.out.2.1, HRG.out.2.2, Below.refl _ _, fun _ _ => rfl, rfl⟩))
  have hlt5 := (Array.getElem?_eq_some_iff.1 k5).1
  rw [← hW5]
  obtain ⟨nb, hnb⟩ : ∃ nb, w5.heap.size = nb := ⟨_, rfl⟩
  rw [hnb] at HS hlt5 ⊢
  have hnw : W2.heap.size ≤ nb := by omega
  clear hW5 hb5' k5 hb3 hb4 hb5 hs3 hs4 hs5 hnb HPA HPB HPC
  go_upto_region 6 with (go_at_call 38; (with_reducible refine HS.out.mono ?_); rintro e w6 ⟨rfl, x, y, z, hrow, hxy, hyz⟩)
  have HB6 := Lib.hid (HB5.out.trans (hrow.below.mono hnw))
  have HXY := Lib.hid (And.intro (And.intro hxy hyz) (And.intro hrow.qx (And.intro hrow.qy hrow.qz)))
  have hlt6 : nb < w6.heap.size := by rw [hrow.size]; exact hlt5
  have HX6 := Lib.hid fun W (hb : Below w6.heap.size w6 W) => (show W.cell? ⟨tb, 0, none⟩ = some (.slice s n c) ∧ W.cell? ⟨tb, 1, none⟩ = some (.int .i64 t.root) ∧ W.cell? ⟨nb, 0, none⟩ = some (.int .i64 x) ∧ W.cell? ⟨nb, 1, none⟩ = some (.int .i64 y) ∧ W.cell? ⟨nb, 2, none⟩ = some (.int .i64 z) from by
    obtain ⟨a1, a2⟩ := HTC.out W (Below.trans' HB6.out hb HB6.out.size)
    have a3 := (hb.block nb hlt6).trans hrow.box
    exact ⟨a1, a2, by simp [World.cell?, a3], by simp [World.cell?, a3], by simp [World.cell?, a3]⟩)
  have HAL := Lib.hid fun lo hi W (hb : Below w6.heap.size w6 W) => all_is (lo := lo) (hi := hi) (HTR.out W (Below.trans' HB6.out hb HB6.out.size)) (allR_sub HL.out.1 lo hi).1 (allR_sub HL.out.1 lo hi).2
  have i0 := fun w => idx3 (g := nb) (cap := 3) (j := 0) (by omega) w
  have i1 := fun w => idx3 (g := nb) (cap := 3) (j := 1) (by omega) w
  have i2 := fun w => idx3 (g := nb) (cap := 3) (j := 2) (by omega) w
  simp only [Int.natCast_zero, Int.natCast_one, Int.cast_ofNat_Int] at i0 i1 i2
  have B_w6 := Lib.hid (Below.refl w6.heap.size w6)
  clear hrow hxy hyz HS hlt5
  refine wp_region_sched [(0, 0), (1, 1), (2, 1), (3, 0), (4, 1), (5, 1), (6, 0), (7, 3), (8, 1), (9, 1), (10, 1), (11, 1), (12, 1)] 7
    (fun W => W.cell? ⟨tb, 0, none⟩ = some (.slice s n c) ∧ W.cell? ⟨tb, 1, none⟩ = some (.int .i64 t.root) ∧ W.cell? ⟨nb, 0, none⟩ = some (.int .i64 x) ∧ W.cell? ⟨nb, 1, none⟩ = some (.int .i64 y) ∧ W.cell? ⟨nb, 2, none⟩ = some (.int .i64 z)) (by kernel_rfl) (by kernel_rfl) (HX6.out _ B_w6.out.drew) ?_
  (simp only [pickS, List.filterMap_cons, List.filterMap_nil, List.getElem?_cons_zero, List.getElem?_cons_succ, Option.map_some])
  (repeat (first | ((refine sched_pure (v := ?_) rfl (fun W => ?_) ?_); rotate_left; focus (go_simp; (try with_reducible rfl); done); (try simp only [Act.put, List.setIfInBounds_toArray, List.set_cons_zero, List.set_cons_succ])) | ((refine sched_read (v := ?_) rfl (fun W hW => ?_) ?_); rotate_left; focus ((try dsimp only at hW); go_simp; (try with_reducible rfl); done); (try simp only [Act.put, List.setIfInBounds_toArray, List.set_cons_zero, List.set_cons_succ]))))
  refine sched_last rfl (fun K hK => ?_)
  go_simp
  (with_reducible refine (HAL.out x y _ B_w6.out.drew).mono ?_); rintro e w7 ⟨sX, cX, rfl, hb, ho⟩
  go_simp
  refine hK _ _ ?_
  clear hK K
  (repeat (first | ((refine sched_pure (v := ?_) rfl (fun W => ?_) ?_); rotate_left; focus (go_simp; (try with_reducible rfl); done); (try simp only [Act.put, List.setIfInBounds_toArray, List.set_cons_zero, List.set_cons_succ])) | ((refine sched_read (v := ?_) rfl (fun W hW => ?_) ?_); rotate_left; focus ((try dsimp only at hW); go_simp; (try with_reducible rfl); done); (try simp only [Act.put, List.setIfInBounds_toArray, List.set_cons_zero, List.set_cons_succ]))))
  refine sched_end ?_
  have B_w7 := Lib.hid (Below.trans' B_w6.out.drew hb B_w6.out.size)
  have OX := Lib.hid (And.intro ho hb)
  clear ho hb
  go_upto_region 7 with (fail)
  refine wp_region_sched [(0, 0), (1, 1), (2, 1), (3, 0), (4, 1), (5, 1), (6, 0), (7, 3), (8, 1), (9, 1), (10, 1), (11, 1), (12, 1)] 7
    (fun W => W.cell? ⟨tb, 0, none⟩ = some (.slice s n c) ∧ W.cell? ⟨tb, 1, none⟩ = some (.int .i64 t.root) ∧ W.cell? ⟨nb, 0, none⟩ = some (.int .i64 x) ∧ W.cell? ⟨nb, 1, none⟩ = some (.int .i64 y) ∧ W.cell? ⟨nb, 2, none⟩ = some (.int .i64 z)) (by kernel_rfl) (by kernel_rfl) (HX6.out _ B_w7.out.drew) ?_
  (simp only [pickS, List.filterMap_cons, List.filterMap_nil, List.getElem?_cons_zero, List.getElem?_cons_succ, Option.map_some])
  (repeat (first | ((refine sched_pure (v := ?_) rfl (fun W => ?_) ?_); rotate_left; focus (go_simp; (try with_reducible rfl); done); (try simp only [Act.put, List.setIfInBounds_toArray, List.set_cons_zero, List.set_cons_succ])) | ((refine sched_read (v := ?_) rfl (fun W hW => ?_) ?_); rotate_left; focus ((try dsimp only at hW); go_simp; (try with_reducible rfl); done); (try simp only [Act.put, List.setIfInBounds_toArray, List.set_cons_zero, List.set_cons_succ]))))
  refine sched_last rfl (fun K hK => ?_)
  go_simp
  (with_reducible refine (HAL.out y z _ B_w7.out.drew).mono ?_); rintro e w8 ⟨sY, cY, rfl, hb, ho⟩
  go_simp
  refine hK _ _ ?_
  clear hK K
  (repeat (first | ((refine sched_pure (v := ?_) rfl (fun W => ?_) ?_); rotate_left; focus (go_simp; (try with_reducible rfl); done); (try simp only [Act.put, List.setIfInBounds_toArray, List.set_cons_zero, List.set_cons_succ])) | ((refine sched_read (v := ?_) rfl (fun W hW => ?_) ?_); rotate_left; focus ((try dsimp only at hW); go_simp; (try with_reducible rfl); done); (try simp only [Act.put, List.setIfInBounds_toArray, List.set_cons_zero, List.set_cons_succ]))))
  refine sched_end ?_
  have B_w8 := Lib.hid (Below.trans' B_w7.out.drew hb B_w7.out.size)
  have OY := Lib.hid (And.intro ho hb)
  clear ho hb
  go_upto_region 8 with (fail)
  refine wp_region_sched [(0, 0), (1, 1), (2, 1), (3, 0), (4, 1), (5, 1), (6, 0), (7, 3), (8, 1), (9, 1), (10, 1), (11, 1), (12, 1)] 7
    (fun W => W.cell? ⟨tb, 0, none⟩ = some (.slice s n c) ∧ W.cell? ⟨tb, 1, none⟩ = some (.int .i64 t.root) ∧ W.cell? ⟨nb, 0, none⟩ = some (.int .i64 x) ∧ W.cell? ⟨nb, 1, none⟩ = some (.int .i64 y) ∧ W.cell? ⟨nb, 2, none⟩ = some (.int .i64 z)) (by kernel_rfl) (by kernel_rfl) (HX6.out _ B_w8.out.drew) ?_
  (simp only [pickS, List.filterMap_cons, List.filterMap_nil, List.getElem?_cons_zero, List.getElem?_cons_succ, Option.map_some])
  (repeat (first | ((refine sched_pure (v := ?_) rfl (fun W => ?_) ?_); rotate_left; focus (go_simp; (try with_reducible rfl); done); (try simp only [Act.put, List.setIfInBounds_toArray, List.set_cons_zero, List.set_cons_succ])) | ((refine sched_read (v := ?_) rfl (fun W hW => ?_) ?_); rotate_left; focus ((try dsimp only at hW); go_simp; (try with_reducible rfl); done); (try simp only [Act.put, List.setIfInBounds_toArray, List.set_cons_zero, List.set_cons_succ]))))
  refine sched_last rfl (fun K hK => ?_)
  go_simp
  (with_reducible refine (HAL.out x z _ B_w8.out.drew).mono ?_); rintro e w9 ⟨sZ, cZ, rfl, hb, ho⟩
  go_simp
  refine hK _ _ ?_
  clear hK K
  (repeat (first | ((refine sched_pure (v := ?_) rfl (fun W => ?_) ?_); rotate_left; focus (go_simp; (try with_reducible rfl); done); (try simp only [Act.put, List.setIfInBounds_toArray, List.set_cons_zero, List.set_cons_succ])) | ((refine sched_read (v := ?_) rfl (fun W hW => ?_) ?_); rotate_left; focus ((try dsimp only at hW); go_simp; (try with_reducible rfl); done); (try simp only [Act.put, List.setIfInBounds_toArray, List.set_cons_zero, List.set_cons_succ]))))
  refine sched_end ?_
  have B_w9 := Lib.hid (Below.trans' B_w8.out.drew hb B_w8.out.size)
  have OZ := Lib.hid (And.intro ho hb)
  clear ho hb
  go_upto_region 9 with (fail)
  refine wp_region_sched [(0, 0), (1, 1), (2, 1), (3, 0), (4, 1), (5, 1), (6, 0), (7, 3), (8, 1), (9, 1), (10, 1), (11, 1), (12, 1)] 7
    (fun W => W.cell? ⟨tb, 0, none⟩ = some (.slice s n c) ∧ W.cell? ⟨tb, 1, none⟩ = some (.int .i64 t.root) ∧ W.cell? ⟨nb, 0, none⟩ = some (.int .i64 x) ∧ W.cell? ⟨nb, 1, none⟩ = some (.int .i64 y) ∧ W.cell? ⟨nb, 2, none⟩ = some (.int .i64 z)) (by kernel_rfl) (by kernel_rfl) (HX6.out _ B_w9.out.drew) ?_
  (simp only [pickS, List.filterMap_cons, List.filterMap_nil, List.getElem?_cons_zero, List.getElem?_cons_succ, Option.map_some])
  (repeat (first | ((refine sched_pure (v := ?_) rfl (fun W => ?_) ?_); rotate_left; focus (go_simp; (try with_reducible rfl); done); (try simp only [Act.put, List.setIfInBounds_toArray, List.set_cons_zero, List.set_cons_succ])) | ((refine sched_read (v := ?_) rfl (fun W hW => ?_) ?_); rotate_left; focus ((try dsimp only at hW); go_simp; (try with_reducible rfl); done); (try simp only [Act.put, List.setIfInBounds_toArray, List.set_cons_zero, List.set_cons_succ]))))
  refine sched_last rfl (fun K hK => ?_)
  go_simp
  (with_reducible refine (HAL.out z x _ B_w9.out.drew).mono ?_); rintro e w10 ⟨sN, cN, rfl, hb, ho⟩
  go_simp
  refine hK _ _ ?_
  clear hK K
  (repeat (first | ((refine sched_pure (v := ?_) rfl (fun W => ?_) ?_); rotate_left; focus (go_simp; (try with_reducible rfl); done); (try simp only [Act.put, List.setIfInBounds_toArray, List.set_cons_zero, List.set_cons_succ])) | ((refine sched_read (v := ?_) rfl (fun W hW => ?_) ?_); rotate_left; focus ((try dsimp only at hW); go_simp; (try with_reducible rfl); done); (try simp only [Act.put, List.setIfInBounds_toArray, List.set_cons_zero, List.set_cons_succ]))))
  refine sched_end ?_
  have B_w10 := Lib.hid (Below.trans' B_w9.out.drew hb B_w9.out.size)
  have ON := Lib.hid (And.intro ho hb)
  clear ho hb
  have hxz : x ≤ z := by have := HXY.out.1; omega
  obtain ⟨LX, hLX⟩ : ∃ q, L.filter (inRange x y) = q := ⟨_, rfl⟩
  obtain ⟨LY, hLY⟩ : ∃ q, L.filter (inRange y z) = q := ⟨_, rfl⟩
  obtain ⟨LZ, hLZ⟩ : ∃ q, L.filter (inRange x z) = q := ⟨_, rfl⟩
  obtain ⟨LN, hLN⟩ : ∃ q, L.filter (inRange z x) = q := ⟨_, rfl⟩
  rw [hLX] at OX ⊢
  rw [hLY] at OY ⊢
  rw [hLZ] at OZ ⊢
  rw [hLN] at ON ⊢
  have hln0 : LN = [] := by rw [← hLN]; exact range_none hxz L
  subst hln0
  have hspl : LX ++ LY = LZ := by rw [← hLX, ← hLY, ← hLZ]; exact range_split HXY.out.1.1 HXY.out.1.2 HL.out.2.1
  have hlz : ∀ e ∈ LZ, x ≤ e.key ∧ e.key < z := fun e he => by
    rw [← hLZ] at he
    have := (List.mem_filter.1 he).2
    simpa [inRange] using this
  have hll : LX.length ≤ 150 ∧ LY.length ≤ 150 ∧ LZ.length ≤ 150 := by
    have h0 := HL.out.2.2
    have h1 := List.length_filter_le (inRange x y) L
    have h2 := List.length_filter_le (inRange y z) L
    have h3 := List.length_filter_le (inRange x z) L
    rw [hLX] at h1
    rw [hLY] at h2
    rw [hLZ] at h3
    omega
  have HZ := Lib.hid (And.intro hspl (And.intro hlz hll))
  have b78 : Below w7.heap.size w7 w8 := Below.trans' (Below.refl _ _).drew OY.out.2 (Nat.le_refl _)
  have b89 : Below w8.heap.size w8 w9 := Below.trans' (Below.refl _ _).drew OZ.out.2 (Nat.le_refl _)
  have b90 : Below w9.heap.size w9 w10 := Below.trans' (Below.refl _ _).drew ON.out.2 (Nat.le_refl _)
  have hs7 := B_w7.out.size
  have hs8 := b78.size
  have hs9 := b89.size
  have hs10 := b90.size
  have HX10 := Lib.hid (OX.out.1.below (Below.trans' (Below.trans' b78 b89 hs8) b90 (by omega)) (Nat.le_refl _))
  have HY10 := Lib.hid (OY.out.1.below (Below.trans' b89 b90 hs9) (Nat.le_refl _))
  have HZ10 := Lib.hid (OZ.out.1.below b90 (Nat.le_refl _))
  have HLX := Lib.hid (show ∀ g, (Value.slice sX LX.length cX).ownBlock = some g → w6.heap.size ≤ g ∧ g < w7.heap.size from fun g h => OX.out.1.lt g h)
  have HLZ := Lib.hid (show ∀ g, (Value.slice sZ LZ.length cZ).ownBlock = some g → w8.heap.size ≤ g ∧ g < w9.heap.size from fun g h => OZ.out.1.lt g h)
  obtain ⟨_, _, hv, -, -, -, -, p5⟩ := HZ10.out.at (by omega)
  injection hv with hv1 hv2 hv3
  subst hv1 hv3
  clear hv2 hLX hLY hLZ hLN hspl hlz b78 b89 b90 B_w6 B_w7 B_w8 B_w9 OX OY OZ ON HAL HTR
  go_wp2_with fail
  go_loopg [84] LZ.length (fun g i wr => ∃ k : Nat, k ≤ LZ.length ∧ g = LZ.length - k ∧ i = .int .i64 k ∧ Hid (Below w10.heap.size w10 wr))
  case atStart => exact ⟨0, Nat.zero_le _, rfl, rfl, Lib.hid ((Below.refl _ _))⟩
  case round =>
    obtain ⟨k, hk, rfl, rfl, HR⟩ := hrel
    by_cases hlt : k < LZ.length
    · obtain ⟨eb, eoff, rfl, heb, hec⟩ := p5 (by omega)
      obtain ⟨c0, c1, c2, c3, c4, c5, c6⟩ := ent_cells HR.out heb hec hlt
      have hin := HZ.out.2.1 _ (List.getElem_mem hlt)
      have hix := fun w' => idx_ents (ab := eb) (aoff := eoff) (n := LZ.length) (cap := cZ) (show (k : Int) = ((k : Nat) : Int) by rfl) hlt w'
      obtain ⟨e, he⟩ : ∃ e, LZ[k] = e := ⟨_, rfl⟩
      rw [he] at c0 c1 c2 c3 c4 c5 c6 hin
      have hd1 : decide (e.key < x) = false := decide_eq_false (by omega)
      have hd2 : decide (z ≤ e.key) = false := decide_eq_false (by omega)
      clear he hec p5 hin
      go_upto_region 13 with (fail)
      obtain ⟨W1, hW1⟩ : ∃ W', W' = wr.alloc (.cells #[.int .i64 e.key, .int .i64 e.is.c, .int .i64 e.is.s, .int .i64 e.is.mi, .int .i64 e.is.ma, .int .i64 e.is.t, .int .i64 e.is.l] 55) := ⟨_, rfl⟩
      have hb1 : Below wr.heap.size wr W1 := by rw [hW1]; exact (by repeat (first | with_reducible exact Below.refl _ _ | with_reducible assumption | with_reducible refine below_dn ?_ _ | with_reducible refine Below.drew ?_ | with_reducible refine Below.alloc ?_ (by first | omega | (simp; done) | (simp; omega) | (simp [drew_size]; done) | (simp [drew_size]; omega)) _ | with_reducible refine Below.setCell ?_ (by first | omega | (simp; done) | (simp; omega) | (simp [drew_size]; done) | (simp [drew_size]; omega)) _))
      have k1 : W1.heap[wr.heap.size]? = some (.cells #[.int .i64 e.key, .int .i64 e.is.c, .int .i64 e.is.s, .int .i64 e.is.mi, .int .i64 e.is.ma, .int .i64 e.is.t, .int .i64 e.is.l] 55) := by rw [hW1]; exact heap_new _ _ rfl
      have hbW := Below.trans' HR.out hb1 HR.out.size
      have HBW := Lib.hid hbW
      have q0 : W1.cell? ⟨wr.heap.size, 0, none⟩ = some (.int .i64 e.key) := by simp [World.cell?, k1]
      obtain ⟨-, -, n0, -, n2⟩ := HX6.out _ (Below.trans' B_w10.out hbW B_w10.out.size)
      rw [← hW1]
      clear hW1 hb1 k1 hbW c0 c1 c2 c3 c4 c5 c6 hix
      go_quiet (fail)
      go_wp2_with fail
      go_roundg (LZ.length - (k + 1))
      case measure => omega
      case rel => exact ⟨k + 1, by omega, rfl, by go_num, Lib.hid (by have hb := HBW.out; exact (by repeat (first | with_reducible exact Below.refl _ _ | with_reducible assumption | with_reducible refine below_dn ?_ _ | with_reducible refine Below.drew ?_ | with_reducible refine Below.alloc ?_ (by first | omega | (simp; done) | (simp; omega) | (simp [drew_size]; done) | (simp [drew_size]; omega)) _ | with_reducible refine Below.setCell ?_ (by first | omega | (simp; done) | (simp; omega) | (simp [drew_size]; done) | (simp [drew_size]; omega)) _)))⟩
    · obtain ⟨hspl, -, hll⟩ := HZ.out
      have hox := HX10.out.below HR.out (Nat.le_refl _)
      have hoy := (HY10.out.below HR.out (Nat.le_refl _)).at (by omega)
      have hoz := HZ10.out.below HR.out (Nat.le_refl _)
      obtain ⟨v', w', hrun, ho', hg', -⟩ := run_append_ents hox hoy (by omega) (by have := HR.out.size; show w6.heap.size ≤ _; omega) 49
      obtain ⟨so', sc', rfl⟩ := ho'.isSlice
      have hoz' : EntsAt w' (.slice sZ LZ.length cZ) LZ := (hoz.block fun g hg => hg'.block g (hoz.lt g hg).2 (fun e => by
        have h1 := HLX.out g e.symm
        have h2 := HLZ.out g hg
        omega)).at (by omega)
      have HEQ := Lib.hid (equalEnts_any (ho'.at (by rw [List.length_append]; omega)) hoz')
      rw [hspl] at HEQ
      simp only [decide_true] at HEQ
      have HB := Lib.hid (show Below w.heap.size w w' from Below.grown ((HB2.out.trans (Below.mono (HB6.out) HB2.out.size)).trans ((B_w10.out.mono (by have := HB2.out.size; have := HB6.out.size; omega)).trans (HR.out.mono (by have := HB2.out.size; have := HB6.out.size; have := B_w10.out.size; omega)))) hg' (by have := HB2.out.size; have := HB6.out.size; have := B_w10.out.size; have := HR.out.size; omega) (fun j hj => by have := (hox.lt j hj).1; have h6 : w6.heap.size ≤ j := this; have := HB2.out.size; have := HB6.out.size; omega))
      clear hox hoy hoz hoz' ho' hg' hll
      have HRUN := Lib.hid hrun
      clear hrun
      go_wp2_with (first | (at_builtin; refine wpList_append_wanted _ rfl _ _ 49 49 rfl _ _ rfl rfl _ _ HRUN.out ?_) | (go_at_call 39; (with_reducible refine HEQ.out.mono ?_); rintro e w8' ⟨rfl, hb8⟩))
      go_ret
      exact ⟨ret_bool (by simp), Below.trans' HB.out hb8 HB.out.size⟩
end Go.Proofs.YtggcinmjmkfboaaDoor
