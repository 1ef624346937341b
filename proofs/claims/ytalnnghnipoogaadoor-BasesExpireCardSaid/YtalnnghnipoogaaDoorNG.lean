/- Texts of mine that come as one: Clone Nodes Turn. -/
import Derived.Test.YtalnnghnipoogaaDoorKG
import Derived.Lib.LazyBuf
/- slices.Clone. -/
namespace Go.Proofs.YtalnnghnipoogaaDoor
open Go.RowKit

set_option maxRecDepth 100000 in
set_option maxHeartbeats 1000000 in
theorem cloneEnt_any {v : Value} {xs : List Ent} {w : World} (h : SlAt 7 56 enEnt w v xs) :
    Calls Tryd.prog 89 #[v] w fun e w' => ∃ v', e = .returned v' ∧ w'.ownsRow w.heap.size 89 7 v' xs.length (xs.flatMap enEnt) ∧ Below w.heap.size w w' := by
  obtain ⟨ao, cap, rfl, h1, h2, h3, h4, h5⟩ := id h
  have hnil : ∀ w, (binOp .eql 35 (.slice ao xs.length cap) (.slice none 0 0)).run Tryd.prog w = .ok (.bool ao.isNone) w := fun w => Lib.run_eql_slice_nil w _ _ _ _ _ _ _ Tryd.underlying35
  cases ao with
  | none =>
    have h0 : xs.length = 0 := by have := h4 rfl; omega
    obtain rfl := List.eq_nil_of_length_eq_zero h0
    obtain rfl : cap = 0 := h4 rfl
    clear h4 h5
    simp only [Option.isNone_none, List.length_nil] at hnil
    go_enter Tryd.func89, Tryd.ntmps89
    go_wp2_with fail
    go_ret
    exact ⟨_, rfl, World.ownsRow_nil _ _ _ _, Below.refl _ _⟩
  | some ad =>
    obtain ⟨_, g1, g2⟩ := h.news (enEnt_length)
    obtain ⟨i0, z, hi, hz, hz1, hz2, hz3⟩ := info_some Tryd.iEnt
    simp only [Option.isNone_some] at hnil
    have hown0 : (w.alloc (.cells #[] 89)).ownsRow w.heap.size 89 7 (.slice (some ⟨w.heap.size, 0, none⟩) 0 0) 0 [] := World.ownsRow_made w #[] 0 (Nat.le_refl _) (by simp [maxLen]) (by simp)
    clear h4 h5
    go_enter Tryd.func89, Tryd.ntmps89
    go_wp2_with (at_builtin; refine wpList_append_own _ rfl _ _ 35 rfl w.heap.size 89 i0 z 7 56 Tryd.underlying35 hi hz hz1 hz2 hz3 (by decide) _ _ _ rfl hown0 ad xs.length cap (xs.flatMap enEnt) rfl g1 (fun j u hj => cell_alloc (g2 j u hj)) (enEnt_one xs) (by unfold maxLen; omega) (by omega) (by simp) ?_; intro v' w3 hown' hgrow hv)
    go_ret
    exact ⟨v', rfl, by simpa using hown', Below.grown ((Below.refl _ _).alloc (Nat.le_refl _) _) hgrow (by simp) (fun j hj => (hown0.lt j hj).1)⟩

set_option maxRecDepth 100000 in
set_option maxHeartbeats 1000000 in
theorem cloneInt_any {v : Value} {xs : List Int} {w : World} (h : SlAt 1 8 enInt w v xs) :
    Calls Tryd.prog 96 #[v] w fun e w' => ∃ v', e = .returned v' ∧ w'.ownsRow w.heap.size 3 1 v' xs.length (xs.flatMap enInt) ∧ Below w.heap.size w w' := by
  obtain ⟨ao, cap, rfl, h1, h2, h3, h4, h5⟩ := id h
  have hnil : ∀ w, (binOp .eql 48 (.slice ao xs.length cap) (.slice none 0 0)).run Tryd.prog w = .ok (.bool ao.isNone) w := fun w => Lib.run_eql_slice_nil w _ _ _ _ _ _ _ Tryd.underlying48
  cases ao with
  | none =>
    have h0 : xs.length = 0 := by have := h4 rfl; omega
    obtain rfl := List.eq_nil_of_length_eq_zero h0
    obtain rfl : cap = 0 := h4 rfl
    clear h4 h5
    simp only [Option.isNone_none, List.length_nil] at hnil
    go_enter Tryd.func96, Tryd.ntmps96
    go_wp2_with fail
    go_ret
    exact ⟨_, rfl, World.ownsRow_nil _ _ _ _, Below.refl _ _⟩
  | some ad =>
    obtain ⟨_, g1, g2⟩ := h.news (enInt_length)
    obtain ⟨i0, z, hi, hz, hz1, hz2, hz3⟩ := info_some Tryd.iInt
    simp only [Option.isNone_some] at hnil
    have hown0 : (w.alloc (.cells #[] 3)).ownsRow w.heap.size 3 1 (.slice (some ⟨w.heap.size, 0, none⟩) 0 0) 0 [] := World.ownsRow_made w #[] 0 (Nat.le_refl _) (by simp [maxLen]) (by simp)
    clear h4 h5
    go_enter Tryd.func96, Tryd.ntmps96
    go_wp2_with (at_builtin; refine wpList_append_own _ rfl _ _ 48 rfl w.heap.size 3 i0 z 1 8 Tryd.underlying48 hi hz hz1 hz2 hz3 (by decide) _ _ _ rfl hown0 ad xs.length cap (xs.flatMap enInt) rfl g1 (fun j u hj => cell_alloc (g2 j u hj)) (enInt_one xs) (by unfold maxLen; omega) (by omega) (by simp) ?_; intro v' w3 hown' hgrow hv)
    go_ret
    exact ⟨v', rfl, by simpa using hown', Below.grown ((Below.refl _ _).alloc (Nat.le_refl _) _) hgrow (by simp) (fun j hj => (hown0.lt j hj).1)⟩
end Go.Proofs.YtalnnghnipoogaaDoor

/- Nodes and trees in memory. -/
namespace Go.Proofs.YtalnnghnipoogaaDoor
open Go.RowKit

structure Raw where
  leaf : Bool
  ev : Value
  kv : Value
  dv : Value
  bv : Value
def enRaw (r : Raw) : List Value := [.bool r.leaf, r.ev, r.kv, r.dv, r.bv]
structure NodeAt (w : World) (r : Raw) (x : Nd) : Prop where
  leaf : r.leaf = x.leaf
  ents : EntsAt w r.ev x.ents
  keys : IntsAt w r.kv x.keys
  kids : IntsAt w r.dv x.kids
  buf : EntsAt w r.bv x.buf
def RawsAt (w : World) (rs : List Raw) (xs : List Nd) : Prop := rs.length = xs.length ∧ ∀ (i : Nat) r x, rs[i]? = some r → xs[i]? = some x → NodeAt w r x
def NodesAt (w : World) (v : Value) (xs : List Nd) : Prop := ∃ rs, SlAt 5 104 enRaw w v rs ∧ RawsAt w rs xs
def TreeAt (w : World) (v : Value) (t : Tr) : Prop := ∃ nv, v = .agg #[nv, .int .i64 t.root] ∧ NodesAt w nv t.nodes

theorem NodeAt.below {w w' : World} {r : Raw} {x : Nd} (h : NodeAt w r x) {B : Nat} (hb : Below B w w') (hB : w.heap.size ≤ B) : NodeAt w' r x :=
  ⟨h.leaf, h.ents.below hb hB, h.keys.below hb hB, h.kids.below hb hB, h.buf.below hb hB⟩
theorem RawsAt.below {w w' : World} {rs : List Raw} {xs : List Nd} (h : RawsAt w rs xs) {B : Nat} (hb : Below B w w') (hB : w.heap.size ≤ B) : RawsAt w' rs xs :=
  ⟨h.1, fun i r x hr hx => (h.2 i r x hr hx).below hb hB⟩
theorem NodesAt.below {w w' : World} {v : Value} {xs : List Nd} (h : NodesAt w v xs) {B : Nat} (hb : Below B w w') (hB : w.heap.size ≤ B) : NodesAt w' v xs :=
  let ⟨rs, h1, h2⟩ := h
  ⟨rs, h1.below hb hB, h2.below hb hB⟩
theorem TreeAt.below {w w' : World} {v : Value} {t : Tr} (h : TreeAt w v t) {B : Nat} (hb : Below B w w') (hB : w.heap.size ≤ B) : TreeAt w' v t :=
  let ⟨nv, h1, h2⟩ := h
  ⟨nv, h1, h2.below hb hB⟩

theorem SlAt.one {α : Type} {k sz : Nat} {en : α → List Value} {w : World} {v : Value} {xs : List α} (h : SlAt k sz en w v xs) : v.oneCell' = true := by
  obtain ⟨ao, cap, rfl, _⟩ := h; rfl
theorem SlAt.isSlice {α : Type} {k sz : Nat} {en : α → List Value} {w : World} {v : Value} {xs : List α} (h : SlAt k sz en w v xs) : ∃ ao cap, v = .slice ao xs.length cap := by
  obtain ⟨ao, cap, rfl, _⟩ := h; exact ⟨_, _, rfl⟩
theorem enRaw_length (e : Raw) : (enRaw e).length = 5 := rfl
theorem NodeAt.one {w : World} {r : Raw} {x : Nd} (h : NodeAt w r x) : ∀ u ∈ enRaw r, u.oneCell' = true := by
  intro u hu
  simp [enRaw] at hu
  rcases hu with rfl | rfl | rfl | rfl | rfl
  · rfl
  · exact h.ents.one
  · exact h.keys.one
  · exact h.kids.one
  · exact h.buf.one
theorem RawsAt.one {w : World} {rs : List Raw} {xs : List Nd} (h : RawsAt w rs xs) : ∀ u ∈ rs.flatMap enRaw, u.oneCell' = true := by
  intro u hu
  obtain ⟨r, hr, hx⟩ := List.mem_flatMap.1 hu
  obtain ⟨i, hi, rfl⟩ := List.getElem_of_mem hr
  have hix : i < xs.length := by rw [← h.1]; exact hi
  exact (h.2 i rs[i] xs[i] (by simp [hi]) (by simp [hix])).one u hx
theorem Tryd.iNode : (Tryd.prog.info? 122).map (fun i => (i.zero.map (fun z => z.cells.size), i.size, i.bytes)) = some (some 5, 5, 104) := by kernel_rfl

set_option maxRecDepth 100000 in
set_option maxHeartbeats 1000000 in
theorem cloneRaw_any {v : Value} {xs : List Raw} {w : World} (h : SlAt 5 104 enRaw w v xs) (hone : ∀ u ∈ xs.flatMap enRaw, u.oneCell' = true) :
    Calls Tryd.prog 95 #[v] w fun e w' => ∃ v', e = .returned v' ∧ w'.ownsRow w.heap.size 122 5 v' xs.length (xs.flatMap enRaw) ∧ Below w.heap.size w w' := by
  obtain ⟨ao, cap, rfl, h1, h2, h3, h4, h5⟩ := id h
  have hnil : ∀ w, (binOp .eql 23 (.slice ao xs.length cap) (.slice none 0 0)).run Tryd.prog w = .ok (.bool ao.isNone) w := fun w => Lib.run_eql_slice_nil w _ _ _ _ _ _ _ Tryd.underlying23
  cases ao with
  | none =>
    have h0 : xs.length = 0 := by have := h4 rfl; omega
    obtain rfl := List.eq_nil_of_length_eq_zero h0
    obtain rfl : cap = 0 := h4 rfl
    clear h4 h5
    simp only [Option.isNone_none, List.length_nil] at hnil
    go_enter Tryd.func95, Tryd.ntmps95
    go_wp2_with fail
    go_ret
    exact ⟨_, rfl, World.ownsRow_nil _ _ _ _, Below.refl _ _⟩
  | some ad =>
    obtain ⟨_, g1, g2⟩ := h.news (enRaw_length)
    obtain ⟨i0, z, hi, hz, hz1, hz2, hz3⟩ := info_some Tryd.iNode
    simp only [Option.isNone_some] at hnil
    have hown0 : (w.alloc (.cells #[] 122)).ownsRow w.heap.size 122 5 (.slice (some ⟨w.heap.size, 0, none⟩) 0 0) 0 [] := World.ownsRow_made w #[] 0 (Nat.le_refl _) (by simp [maxLen]) (by simp)
    clear h4 h5
    go_enter Tryd.func95, Tryd.ntmps95
    go_wp2_with (at_builtin; refine wpList_append_own _ rfl _ _ 23 rfl w.heap.size 122 i0 z 5 104 Tryd.underlying23 hi hz hz1 hz2 hz3 (by decide) _ _ _ rfl hown0 ad xs.length cap (xs.flatMap enRaw) rfl g1 (fun j u hj => cell_alloc (g2 j u hj)) hone (by unfold maxLen; omega) (by omega) (by simp) ?_; intro v' w3 hown' hgrow hv)
    go_ret
    exact ⟨v', rfl, by simpa using hown', Below.grown ((Below.refl _ _).alloc (Nat.le_refl _) _) hgrow (by simp) (fun j hj => (hown0.lt j hj).1)⟩

theorem Below.trans' {B : Nat} {w w1 w2 : World} (h : Below B w w1) (h' : Below w1.heap.size w1 w2) (hB : B ≤ w1.heap.size) : Below B w w2 :=
  ⟨h'.os.trans h.os, h'.tape.trans h.tape, h'.output.trans h.output, Nat.le_trans h.size h'.size, fun k hk => (h'.block k (by omega)).trans (h.block k hk)⟩
theorem ownsRow_set5 {w : World} {B n g cap i : Nat} {e : TypeId} {rs : List Raw} {r : Raw} (h : w.ownsRow B e 5 (.slice (some ⟨g, 0, none⟩) n cap) n (rs.flatMap enRaw)) (_hi : i < n) (hn : n = rs.length) :
    (((((w.setCell ⟨g, i * 5, none⟩ (.bool r.leaf)).setCell ⟨g, i * 5 + 1, none⟩ r.ev).setCell ⟨g, i * 5 + 2, none⟩ r.kv).setCell ⟨g, i * 5 + 3, none⟩ r.dv).setCell ⟨g, i * 5 + 4, none⟩ r.bv).ownsRow B e 5 (.slice (some ⟨g, 0, none⟩) n cap) n ((rs.set i r).flatMap enRaw) := by
  obtain ⟨hl, ⟨h0, _⟩ | ⟨g', cap', cur, e1, hb, hg, h1, h2, h3, h4⟩⟩ := h
  · cases h0
  · cases e1
    refine ⟨by rw [flat_length enRaw_length, List.length_set, hn], .inr ⟨g, cap, _, rfl, hb, heap_setCell_same (heap_setCell_same (heap_setCell_same (heap_setCell_same (heap_setCell_same hg)))), h1, h2, by simp [h3], ?_⟩⟩
    apply List.ext_getElem?
    intro j
    rw [List.getElem?_take]
    have hold : ∀ j : Nat, (cur.toList.take (n * 5))[j]? = (rs.flatMap enRaw)[j]? := fun j => by rw [h4]
    by_cases hj : j < n * 5
    · rw [if_pos hj]
      have hin : j / 5 < (rs.set i r).length := by rw [List.length_set, ← hn]; omega
      have hrt : j % 5 < 5 := Nat.mod_lt _ (by omega)
      have hjj : j / 5 * 5 + j % 5 = j := by omega
      have hget : ∀ ys : List Raw, (hy : j / 5 < ys.length) → (ys.flatMap enRaw)[j]? = (enRaw ys[j / 5])[j % 5]? := fun ys hy => by
        have hlt : j % 5 < (enRaw ys[j / 5]).length := by rw [enRaw_length]; exact hrt
        have := flat_at enRaw_length (xs := ys) (i := j / 5) (r := j % 5) (x := ys[j / 5]) (u := (enRaw ys[j / 5])[j % 5]) (by simp [hy]) (by simp [hlt])
        rw [hjj] at this
        rw [this]; simp [hlt]
      rw [hget _ hin]
      have ho := hold j
      rw [List.getElem?_take, if_pos hj, hget _ (by rw [← hn]; omega)] at ho
      by_cases hij : j / 5 = i
      · have e2 : (rs.set i r)[j / 5] = r := by simp [hij]
        rw [e2]
        have hlen : j < cur.size := by have := Nat.mul_le_mul_right 5 h1; omega
        have : j % 5 = 0 ∨ j % 5 = 1 ∨ j % 5 = 2 ∨ j % 5 = 3 ∨ j % 5 = 4 := by omega
        rcases this with h | h | h | h | h <;> rw [h]
        · obtain rfl : j = i * 5 := by omega
          simp [enRaw, hlen]
        · obtain rfl : j = i * 5 + 1 := by omega
          simp [enRaw, hlen]
        · obtain rfl : j = i * 5 + 2 := by omega
          simp [enRaw, hlen]
        · obtain rfl : j = i * 5 + 3 := by omega
          simp [enRaw, hlen]
        · obtain rfl : j = i * 5 + 4 := by omega
          simp [enRaw, hlen]
      · have e2 : (rs.set i r)[j / 5] = rs[j / 5]'(by rw [← hn]; omega) := by rw [List.getElem_set_ne (by omega)]
        rw [e2, ← ho]
        simp only [Array.toList_setIfInBounds, List.getElem?_set]
        have a0 : i * 5 ≠ j := by omega
        have a1 : i * 5 + 1 ≠ j := by omega
        have a2 : i * 5 + 2 ≠ j := by omega
        have a3 : i * 5 + 3 ≠ j := by omega
        have a4 : i * 5 + 4 ≠ j := by omega
        rw [if_neg a4, if_neg a3, if_neg a2, if_neg a1, if_neg a0]
    · rw [if_neg hj]
      have : ((rs.set i r).flatMap enRaw)[j]? = none := by
        apply List.getElem?_eq_none
        rw [flat_length enRaw_length, List.length_set, ← hn]; omega
      rw [this]
end Go.Proofs.YtalnnghnipoogaaDoor

/- Worlds between which only some blocks have changed. -/
namespace Go.Proofs.YtalnnghnipoogaaDoor
open Go.RowKit

theorem heap_new (w : World) (o : Obj) {n : Nat} (h : n = w.heap.size) : (w.alloc o).heap[n]? = some o := by subst h; show (w.heap.push o)[w.heap.size]? = _; simp
structure Turn (X : Nat → Prop) (w w' : World) : Prop where
  os : w'.os = w.os
  tape : w'.tape = w.tape
  output : w'.output = w.output
  size : w.heap.size ≤ w'.heap.size
  block : ∀ b, b < w.heap.size → ¬ X b → w'.heap[b]? = w.heap[b]?
theorem Turn.refl (X : Nat → Prop) (w : World) : Turn X w w := ⟨rfl, rfl, rfl, Nat.le_refl _, fun _ _ _ => rfl⟩
theorem Turn.trans {X : Nat → Prop} {a b c : World} (h : Turn X a b) (k : Turn X b c) : Turn X a c :=
  ⟨k.os.trans h.os, k.tape.trans h.tape, k.output.trans h.output, Nat.le_trans h.size k.size, fun i hi hx => (k.block i (Nat.lt_of_lt_of_le hi h.size) hx).trans (h.block i hi hx)⟩
theorem Turn.trans' {X Y : Nat → Prop} {a b c : World} (h : Turn X a b) (k : Turn Y b c) (hy : ∀ i, i < a.heap.size → Y i → X i) : Turn X a c :=
  ⟨k.os.trans h.os, k.tape.trans h.tape, k.output.trans h.output, Nat.le_trans h.size k.size, fun i hi hx => (k.block i (Nat.lt_of_lt_of_le hi h.size) (fun hh => hx (hy i hi hh))).trans (h.block i hi hx)⟩
theorem Turn.mono {X Y : Nat → Prop} {a b : World} (h : Turn X a b) (hx : ∀ i, i < a.heap.size → X i → Y i) : Turn Y a b := ⟨h.os, h.tape, h.output, h.size, fun i hi hy => h.block i hi (fun hh => hy (hx i hi hh))⟩
theorem Turn.of {X : Nat → Prop} {B : Nat} {a b : World} (h : Below B a b) (hB : a.heap.size ≤ B) : Turn X a b := ⟨h.os, h.tape, h.output, h.size, fun i hi _ => h.block i (by omega)⟩
theorem Turn.alloc {X : Nat → Prop} {a w : World} (h : Turn X a w) (o : Obj) : Turn X a (w.alloc o) := h.trans (Turn.of ((Below.refl _ w).alloc (Nat.le_refl _) o) (Nat.le_refl _))
theorem Turn.drew {X : Nat → Prop} {a w : World} (h : Turn X a w) : Turn X a w.drew := ⟨h.os, h.tape, h.output, h.size, h.block⟩
theorem Turn.drewN {X : Nat → Prop} {a w : World} (h : Turn X a w) (n : Nat) : Turn X a (w.drewN n) := ⟨h.os, h.tape, h.output, h.size, h.block⟩
theorem Turn.setCell {X : Nat → Prop} {a w : World} (h : Turn X a w) {p : Addr} (hp : X p.block ∨ a.heap.size ≤ p.block) (u : Value) : Turn X a (w.setCell p u) :=
  ⟨h.os, h.tape, h.output, by rw [heap_setCell_size]; exact h.size, fun i hi hx => (Below.heap_setCell w p u i (fun e => by subst e; rcases hp with hp | hp; exact hx hp; omega)).trans (h.block i hi hx)⟩
theorem Turn.below {X : Nat → Prop} {B : Nat} {a b c : World} (h : Turn X b c) (hb : Below B a b) (hB : B ≤ b.heap.size) (hx : ∀ i, X i → B ≤ i) : Below B a c :=
  ⟨h.os.trans hb.os, h.tape.trans hb.tape, h.output.trans hb.output, Nat.le_trans hb.size h.size, fun k hk => (h.block k (by omega) (fun hh => by have := hx k hh; omega)).trans (hb.block k hk)⟩
theorem Turn.cell {X : Nat → Prop} {a b : World} (h : Turn X a b) {B : Nat} (hB : B < a.heap.size) (hx : ¬ X B) (o : Nat) : b.cell? ⟨B, o, none⟩ = a.cell? ⟨B, o, none⟩ := World.cell?_of_block (h.block B hB hx)
theorem Turn.frozen {X : Nat → Prop} {a b : World} (h : Turn X a b) {B : Nat} (hB : B < a.heap.size) (hx : ¬ X B) (o : Nat) : b.frozen? ⟨B, o, none⟩ = a.frozen? ⟨B, o, none⟩ := World.frozen?_of_block (h.block B hB hx)
theorem Turn.keep {X : Nat → Prop} {a b : World} (h : Turn X a b) {B : Nat} (hB : B < a.heap.size) (hx : ¬ X B) :
    B < b.heap.size ∧ (∀ o, b.cell? ⟨B, o, none⟩ = a.cell? ⟨B, o, none⟩) ∧ (∀ o, b.frozen? ⟨B, o, none⟩ = a.frozen? ⟨B, o, none⟩) :=
  ⟨Nat.lt_of_lt_of_le hB h.size, h.cell hB hx, h.frozen hB hx⟩
end Go.Proofs.YtalnnghnipoogaaDoor
