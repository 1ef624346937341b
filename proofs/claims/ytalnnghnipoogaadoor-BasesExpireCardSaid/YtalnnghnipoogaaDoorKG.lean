/- Texts of mine that come as one: Kit Eq App Own. -/
import Derived.Test.YtalnnghnipoogaaDoorProg
import Derived.Test.YtalnnghnipoogaaDoorPA
import Derived.WalkKit
import Derived.WalkLawsBesides
import Derived.WalkSpells
import Derived.BigQuiet
import Derived.Deep.QuietTactic
import Derived.Deep.DeepCutAuto
import Derived.Lib.Hide
import Derived.Deep.LoopGhost
import Derived.Outline
import Derived.Test.YtalnnghnipoogaaDoorMO
import Derived.Laws.StructEq
import Derived.OwnWalk
/- What all walks share: imports, and small laws. -/
namespace Go.Proofs.YtalnnghnipoogaaDoor
open Go.RowKit

abbrev Roll.v (r : Roll) : Value := .agg #[.int .i64 r.c, .int .i64 r.s, .int .i64 r.mi, .int .i64 r.ma, .int .i64 r.t, .int .i64 r.l]
theorem ret_int {k : IntKind} {a b : Int} (h : a = b) : Ending.returned (.int k a) = .returned (.int k b) := by rw [h]
theorem ret_bool {a b : Bool} (h : a = b) : Ending.returned (.bool a) = .returned (.bool b) := by rw [h]

theorem keep1 {W w2 : World} (hb : Below W.heap.size W w2) {B : Nat} (hB : B < W.heap.size) :
    B < w2.heap.size ∧ (∀ o, w2.cell? ⟨B, o, none⟩ = W.cell? ⟨B, o, none⟩) ∧ (∀ o, w2.frozen? ⟨B, o, none⟩ = W.frozen? ⟨B, o, none⟩) :=
  ⟨Nat.lt_of_lt_of_le hB hb.size, fun o => hb.cell (p := ⟨B, o, none⟩) hB, fun o => hb.frozen (p := ⟨B, o, none⟩) hB⟩

theorem heap_setCell_same {w : World} {B off : Nat} {c : Array Value} {e : TypeId} {fr : Nat × Nat} {v : Value} (h : w.heap[B]? = some (.cells c e fr)) :
    (w.setCell ⟨B, off, none⟩ v).heap[B]? = some (.cells (c.setIfInBounds off v) e fr) := by
  simp [World.setCell, Array.getElem?_modify, h]
theorem heap_setCell_size (w : World) (a : Addr) (v : Value) : (w.setCell a v).heap.size = w.heap.size := by simp [World.setCell]
theorem heap_set6 {w : World} {B : Nat} {a0 a1 a2 a3 a4 a5 v0 v1 v2 v3 v4 v5 : Value} {e : TypeId} {fr : Nat × Nat} (h : w.heap[B]? = some (.cells #[a0, a1, a2, a3, a4, a5] e fr)) :
    ((((((w.setCell ⟨B, 0, none⟩ v0).setCell ⟨B, 1, none⟩ v1).setCell ⟨B, 2, none⟩ v2).setCell ⟨B, 3, none⟩ v3).setCell ⟨B, 4, none⟩ v4).setCell ⟨B, 5, none⟩ v5).heap[B]? = some (.cells #[v0, v1, v2, v3, v4, v5] e fr) := by
  have h := heap_setCell_same (off := 5) (v := v5) (heap_setCell_same (off := 4) (v := v4) (heap_setCell_same (off := 3) (v := v3) (heap_setCell_same (off := 2) (v := v2) (heap_setCell_same (off := 1) (v := v1) (heap_setCell_same (off := 0) (v := v0) h)))))
  simpa using h
@[go_sem high] theorem run_min_one {P : Program} {w : World} (ts : Array TypeId) (t : TypeId) (k k' : IntKind) (x y : Int) : (Builtin.min_ ts t #[.int k x, .int k' y]).run P w = .ok (.int k (min x y)) w := by
  rw [run_min_int2]; congr 2; omega
@[go_sem high] theorem run_max_one {P : Program} {w : World} (ts : Array TypeId) (t : TypeId) (k k' : IntKind) (x y : Int) : (Builtin.max_ ts t #[.int k x, .int k' y]).run P w = .ok (.int k (max x y)) w := by
  rw [run_max_int2]; congr 2; omega
end Go.Proofs.YtalnnghnipoogaaDoor

/- '==' and '!=' on rollups and entries, as the model runs them. -/
namespace Go.Proofs.YtalnnghnipoogaaDoor
open Go.RowKit

theorem below_dn {B : Nat} {a w : World} (h : Below B a w) (n : Nat) : Below B a (w.drewN n) := ⟨h.os, h.tape, h.output, h.size, h.block⟩
theorem belowAuto {B : Nat} {w w' : World} (h : Below B w w' := by repeat (first | with_reducible exact Below.refl _ _ | with_reducible assumption | with_reducible refine below_dn ?_ _ | with_reducible refine Below.drew ?_ | with_reducible refine Below.alloc ?_ (by first | omega | (simp; done) | (simp; omega) | (simp [drew_size]; done) | (simp [drew_size]; omega)) _ | with_reducible refine Below.setCell ?_ (by first | omega | (simp; done) | (simp; omega) | (simp [drew_size]; done) | (simp [drew_size]; omega)) _)) : Below B w w' := h

def enEnt (e : Ent) : List Value := [.int .i64 e.key, .int .i64 e.is.c, .int .i64 e.is.s, .int .i64 e.is.mi, .int .i64 e.is.ma, .int .i64 e.is.t, .int .i64 e.is.l]
abbrev EntsAt (w : World) (v : Value) (xs : List Ent) : Prop := SlAt 7 56 enEnt w v xs

theorem Tryd.sRoll : Tryd.prog.underlying 55 = some (.struct (Tryd.prog.fieldsOf 55)) := by kernel_rfl
theorem Tryd.sEnt : Tryd.prog.underlying 89 = some (.struct (Tryd.prog.fieldsOf 89)) := by kernel_rfl
theorem Tryd.hRoll : Tryd.prog.stoodInHeld 55 = false := by kernel_rfl
theorem Tryd.hEnt : Tryd.prog.stoodInHeld 89 = false := by kernel_rfl

set_option maxRecDepth 100000 in
theorem run_equalIn_roll (d : Nat) (a b : Roll) (w : World) : (Op.equalIn (d + 2) 55 (.agg #[.int .i64 a.c, .int .i64 a.s, .int .i64 a.mi, .int .i64 a.ma, .int .i64 a.t, .int .i64 a.l]) (.agg #[.int .i64 b.c, .int .i64 b.s, .int .i64 b.mi, .int .i64 b.ma, .int .i64 b.t, .int .i64 b.l])).run Tryd.prog w = .ok (decide (a = b)) w := by
  have u3 := Tryd.underlying3
  rw [run_equalIn_struct w (d + 1) 55 _ _ Tryd.sRoll Tryd.hRoll]
  simp only [Program.fieldsOf, Tryd.underlying55]
  go_simp
  obtain ⟨a0, a1, a2, a3, a4, a5⟩ := a
  obtain ⟨b0, b1, b2, b3, b4, b5⟩ := b
  simp only [Roll.mk.injEq]
  by_cases h0 : a0 = b0
  · by_cases h1 : a1 = b1
    · by_cases h2 : a2 = b2
      · by_cases h3 : a3 = b3
        · by_cases h4 : a4 = b4
          · by_cases h5 : a5 = b5 <;> simp [h0, h1, h2, h3, h4, h5]
          · simp [h0, h1, h2, h3, h4]
        · simp [h0, h1, h2, h3]
      · simp [h0, h1, h2]
    · simp [h0, h1]
  · simp [h0]

set_option maxRecDepth 100000 in
theorem run_equalIn_ent (d : Nat) (e f : Ent) (w : World) : (Op.equalIn (d + 3) 89 (.agg #[.int .i64 e.key, .int .i64 e.is.c, .int .i64 e.is.s, .int .i64 e.is.mi, .int .i64 e.is.ma, .int .i64 e.is.t, .int .i64 e.is.l]) (.agg #[.int .i64 f.key, .int .i64 f.is.c, .int .i64 f.is.s, .int .i64 f.is.mi, .int .i64 f.is.ma, .int .i64 f.is.t, .int .i64 f.is.l])).run Tryd.prog w = .ok (decide (e = f)) w := by
  have u3 := Tryd.underlying3
  have hr := fun w => run_equalIn_roll d e.is f.is w
  rw [run_equalIn_struct w (d + 2) 89 _ _ Tryd.sEnt Tryd.hEnt]
  simp only [Program.fieldsOf, Tryd.underlying89]
  go_simp
  obtain ⟨e0, e1⟩ := e
  obtain ⟨f0, f1⟩ := f
  simp only [Ent.mk.injEq]
  by_cases h0 : e0 = f0
  · by_cases h1 : e1 = f1 <;> simp [h0, h1]
  · simp [h0]

theorem run_neq_ent (e f : Ent) (w : World) : (binOp .neq 89 (.agg #[.int .i64 e.key, .int .i64 e.is.c, .int .i64 e.is.s, .int .i64 e.is.mi, .int .i64 e.is.ma, .int .i64 e.is.t, .int .i64 e.is.l]) (.agg #[.int .i64 f.key, .int .i64 f.is.c, .int .i64 f.is.s, .int .i64 f.is.mi, .int .i64 f.is.ma, .int .i64 f.is.t, .int .i64 f.is.l])).run Tryd.prog w = .ok (.bool (!decide (e = f))) w := by
  rw [run_neq_struct, run_equalIn_ent 9997]; rfl
end Go.Proofs.YtalnnghnipoogaaDoor

/- Rows of the call's own, and slices that hold elements: plain laws for 'append'. -/
namespace Go.Proofs.YtalnnghnipoogaaDoor
open Go.RowKit

theorem flat_length {α : Type} {en : α → List Value} {k : Nat} (he : ∀ x, (en x).length = k) : ∀ xs : List α, (xs.flatMap en).length = xs.length * k
  | [] => by simp
  | x :: xs => by
    rw [List.flatMap_cons, List.length_append, flat_length he xs, he, List.length_cons, Nat.add_mul, Nat.one_mul, Nat.add_comm]
theorem flat_get {α : Type} {en : α → List Value} {k : Nat} (he : ∀ x, (en x).length = k) : ∀ {xs : List α} {j : Nat} {u : Value}, (xs.flatMap en)[j]? = some u →
    ∃ i x, xs[i]? = some x ∧ i * k ≤ j ∧ j < i * k + k ∧ (en x)[j - i * k]? = some u
  | [], j, u, h => by simp at h
  | x :: xs, j, u, h => by
    rw [List.flatMap_cons] at h
    by_cases hj : j < k
    · rw [List.getElem?_append_left (by rw [he]; exact hj)] at h
      exact ⟨0, x, rfl, by omega, by omega, by simpa using h⟩
    · rw [List.getElem?_append_right (by rw [he]; omega), he] at h
      obtain ⟨i, y, h1, h2, h3, h4⟩ := flat_get he h
      have e1 : (i + 1) * k = i * k + k := by rw [Nat.add_mul, Nat.one_mul]
      refine ⟨i + 1, y, by simpa using h1, by omega, by omega, ?_⟩
      have e2 : j - (i + 1) * k = j - k - i * k := by omega
      rw [e2]; exact h4
theorem flat_at {α : Type} {en : α → List Value} {k : Nat} (he : ∀ x, (en x).length = k) : ∀ {xs : List α} {i r : Nat} {x : α} {u : Value}, xs[i]? = some x → (en x)[r]? = some u → (xs.flatMap en)[i * k + r]? = some u
  | [], i, r, x, u, h, _ => by simp at h
  | y :: xs, 0, r, x, u, h, hu => by
    simp only [List.getElem?_cons_zero, Option.some.injEq] at h
    subst h
    have hr := (List.getElem?_eq_some_iff.1 hu).1
    rw [List.flatMap_cons, Nat.zero_mul, Nat.zero_add, List.getElem?_append_left hr]
    exact hu
  | y :: xs, i + 1, r, x, u, h, hu => by
    simp only [List.getElem?_cons_succ] at h
    have e1 : (i + 1) * k = i * k + k := by rw [Nat.add_mul, Nat.one_mul]
    rw [List.flatMap_cons, List.getElem?_append_right (by rw [he]; omega), he, show (i + 1) * k + r - k = i * k + r from by omega]
    exact flat_at he h hu

theorem SlAt.news {α : Type} {k sz : Nat} {en : α → List Value} {w : World} {ad : Addr} {n cap : Nat} {xs : List α} (he : ∀ x, (en x).length = k) (h : SlAt k sz en w (.slice (some ad) n cap) xs) :
    n = xs.length ∧ (xs.flatMap en).length = xs.length * k ∧ ∀ j u, (xs.flatMap en)[j]? = some u → w.cell? (ad.add j) = some u := by
  obtain ⟨ao, cap', e, h1, h2, h3, h4, h5⟩ := h
  injection e with e1 e2 e3
  subst e1 e2 e3
  refine ⟨rfl, flat_length he xs, fun j u hj => ?_⟩
  obtain ⟨i, x, hx, a1, a2, a3⟩ := flat_get he hj
  obtain ⟨hi, _⟩ := List.getElem?_eq_some_iff.1 hx
  obtain ⟨b, off, e, hb, hc⟩ := h5 (by omega)
  injection e with e
  subst e
  rw [← hc i x hx (j - i * k) u a3]
  congr 1
  simp only [Addr.add]
  split <;> simp <;> omega

theorem SlAt.owned {α : Type} {k sz : Nat} {en : α → List Value} {w : World} {B : Nat} {e : TypeId} {v : Value} {n : Nat} {xs : List α} (he : ∀ x, (en x).length = k) (h : w.ownsRow B e k v n (xs.flatMap en)) (hn : n = xs.length)
    (hs : xs.length * sz ≤ 140737488351232) : SlAt k sz en w v xs := by
  subst hn
  obtain ⟨hl, ⟨rfl, h0⟩ | ⟨g, cap, cur, rfl, hb, hg, h1, h2, h3, h4⟩⟩ := h
  · obtain rfl := List.eq_nil_of_length_eq_zero h0
    exact SlAt.nil _ _ _ _
  · refine ⟨some ⟨g, 0, none⟩, cap, rfl, h1, by unfold maxLen at h2; exact h2, hs, by simp, fun _ => ⟨g, 0, rfl, ?_, fun i x hx j u hu => ?_⟩⟩
    · exact (Array.getElem?_eq_some_iff.1 hg).1
    · have hi := (List.getElem?_eq_some_iff.1 hx).1
      have hj : j < k := by have := (List.getElem?_eq_some_iff.1 hu).1; rw [he] at this; exact this
      have hf := flat_at he hx hu
      rw [← h4, List.getElem?_take] at hf
      split at hf
      · simp only [World.cell?, hg]
        simpa [Nat.zero_add] using hf
      · cases hf

theorem cell_alloc {w : World} {o : Obj} {a : Addr} {u : Value} (h : w.cell? a = some u) : (w.alloc o).cell? a = some u :=
  (((Below.refl w.heap.size w).alloc (Nat.le_refl _) o).cell (p := a) (World.block_lt_of_cell? w a h)).trans h

theorem info_some {P : Program} {e : TypeId} {size bytes : Nat} (h : (P.info? e).map (fun i => (i.zero.map (fun z => z.cells.size), i.size, i.bytes)) = some (some size, size, bytes)) :
    ∃ i z, P.info? e = some i ∧ i.zero = some z ∧ i.size = size ∧ i.bytes = bytes ∧ z.cells.size = size := by
  obtain ⟨i, hi, hzz⟩ := Option.map_eq_some_iff.1 h
  simp only [Prod.mk.injEq] at hzz
  obtain ⟨z, hz, hzs⟩ := Option.map_eq_some_iff.1 hzz.1
  exact ⟨i, z, hi, hz, hzz.2.1, hzz.2.2, hzs⟩

theorem enEnt_length (e : Ent) : (enEnt e).length = 7 := rfl
theorem enInt_length (e : Int) : (enInt e).length = 1 := rfl
theorem enEnt_one (xs : List Ent) : ∀ u ∈ xs.flatMap enEnt, u.oneCell' = true := by
  intro u hu
  obtain ⟨x, _, hx⟩ := List.mem_flatMap.1 hu
  simp [enEnt] at hx
  rcases hx with rfl | rfl | rfl | rfl | rfl | rfl | rfl <;> rfl
theorem enInt_one (xs : List Int) : ∀ u ∈ xs.flatMap enInt, u.oneCell' = true := by
  intro u hu
  obtain ⟨x, _, hx⟩ := List.mem_flatMap.1 hu
  simp [enInt] at hx
  subst hx; rfl
theorem Tryd.iEnt : (Tryd.prog.info? 89).map (fun i => (i.zero.map (fun z => z.cells.size), i.size, i.bytes)) = some (some 7, 7, 56) := by kernel_rfl
theorem Tryd.iInt : (Tryd.prog.info? 3).map (fun i => (i.zero.map (fun z => z.cells.size), i.size, i.bytes)) = some (some 1, 1, 8) := by kernel_rfl
end Go.Proofs.YtalnnghnipoogaaDoor

/- A row of entries of the call's own. -/
namespace Go.Proofs.YtalnnghnipoogaaDoor
open Go.RowKit

@[simp, go_sem] theorem drew_size (w : World) : w.drew.heap.size = w.heap.size := rfl
structure OwnEnts (B : Nat) (w : World) (v : Value) (es : List Ent) : Prop where
  row : w.ownsRow B 89 7 v es.length (es.flatMap enEnt)
theorem OwnEnts.nil (B : Nat) (w : World) : OwnEnts B w (.slice none 0 0) [] := ⟨World.ownsRow_nil _ _ _ _⟩
theorem OwnEnts.alloc {B : Nat} {w : World} {v : Value} {es : List Ent} (h : OwnEnts B w v es) (o : Obj) : OwnEnts B (w.alloc o) v es := ⟨World.ownsRow.alloc h.row o⟩
theorem OwnEnts.block {B : Nat} {w w' : World} {v : Value} {es : List Ent} (h : OwnEnts B w v es) (hb : ∀ g, v.ownBlock = some g → w'.heap[g]? = w.heap[g]?) : OwnEnts B w' v es := by
  obtain ⟨hl, ⟨rfl, h0⟩ | ⟨g, cap, cur, rfl, hB, hg, h1, h2, h3, h4⟩⟩ := h.row
  · exact ⟨⟨hl, .inl ⟨rfl, h0⟩⟩⟩
  · exact ⟨⟨hl, .inr ⟨g, cap, cur, rfl, hB, (hb g rfl).trans hg, h1, h2, h3, h4⟩⟩⟩
theorem OwnEnts.drew {B : Nat} {w : World} {v : Value} {es : List Ent} (h : OwnEnts B w v es) : OwnEnts B w.drew v es := h.block fun _ _ => rfl
theorem OwnEnts.drewN {B : Nat} {w : World} {v : Value} {es : List Ent} (h : OwnEnts B w v es) (n : Nat) : OwnEnts B (w.drewN n) v es := h.block fun _ _ => rfl
theorem OwnEnts.lt {B : Nat} {w : World} {v : Value} {es : List Ent} (h : OwnEnts B w v es) : ∀ g, v.ownBlock = some g → B ≤ g ∧ g < w.heap.size := World.ownsRow.lt h.row
theorem OwnEnts.below {B C : Nat} {w w' : World} {v : Value} {es : List Ent} (h : OwnEnts B w v es) (hb : Below C w w') (hC : w.heap.size ≤ C) : OwnEnts B w' v es := h.block fun g hg => hb.block g (by have := (h.lt g hg).2; omega)
theorem OwnEnts.mono {B C : Nat} {w : World} {v : Value} {es : List Ent} (h : OwnEnts B w v es) (hC : C ≤ B) : OwnEnts C w v es := by
  obtain ⟨hl, ⟨rfl, h0⟩ | ⟨g, cap, cur, rfl, hB, hg, h1, h2, h3, h4⟩⟩ := h.row
  · exact ⟨⟨hl, .inl ⟨rfl, h0⟩⟩⟩
  · exact ⟨⟨hl, .inr ⟨g, cap, cur, rfl, by omega, hg, h1, h2, h3, h4⟩⟩⟩
theorem OwnEnts.at {B : Nat} {w : World} {v : Value} {es : List Ent} (h : OwnEnts B w v es) (hs : es.length ≤ 1000000) : EntsAt w v es := SlAt.owned enEnt_length h.row rfl (by omega)
theorem OwnEnts.isSlice {B : Nat} {w : World} {v : Value} {es : List Ent} (h : OwnEnts B w v es) : ∃ ao cap, v = .slice ao es.length cap := by
  obtain ⟨hl, ⟨rfl, h0⟩ | ⟨g, cap, cur, rfl, _⟩⟩ := h.row
  · exact ⟨none, 0, by rw [h0]⟩
  · exact ⟨_, _, rfl⟩
theorem ent_new {w : World} {e : Ent} {T : TypeId} {j : Nat} {u : Value} (h : (enEnt e)[j]? = some u) :
    (w.alloc (.cells #[.int .i64 e.key, .int .i64 e.is.c, .int .i64 e.is.s, .int .i64 e.is.mi, .int .i64 e.is.ma, .int .i64 e.is.t, .int .i64 e.is.l] T)).cell? (Addr.add ⟨w.heap.size, 0, none⟩ j) = some u := by
  have hk : (w.alloc (.cells #[.int .i64 e.key, .int .i64 e.is.c, .int .i64 e.is.s, .int .i64 e.is.mi, .int .i64 e.is.ma, .int .i64 e.is.t, .int .i64 e.is.l] T)).heap[w.heap.size]? = some (.cells #[.int .i64 e.key, .int .i64 e.is.c, .int .i64 e.is.s, .int .i64 e.is.mi, .int .i64 e.is.ma, .int .i64 e.is.t, .int .i64 e.is.l] T) := by
    show (w.heap.push _)[w.heap.size]? = _; simp
  have ha : Addr.add ⟨w.heap.size, 0, none⟩ j = ⟨w.heap.size, j, none⟩ := by simp [Addr.add]; omega
  rw [ha]
  simp only [World.cell?, hk]
  simpa [enEnt] using h
theorem wpList_append_ent {w : World} {ops : Array Oper} {rest : List Oper} {o : Oper} {a : Act} {Q : Exit → Act → World → Prop} (hgd : o.guard = none) (s x : Operand)
    (ho : o.op = .call { callee := .builtin .append, args := #[s, x], argTypes := #[35, 35] }) (B : Nat) (v : Value) (es : List Ent) (hs : a.eval s = v) (hown : OwnEnts B w v es)
    (ad : Addr) (e : Ent) (hx : a.eval x = .slice (some ad) 1 1) (hnews : ∀ j u, (enEnt e)[j]? = some u → w.cell? (ad.add j) = some u) (hlen : es.length ≤ 1000000) (hbase : B ≤ w.heap.size)
    (h : ∀ v' w', OwnEnts B w' v' (es ++ [e]) → (∀ C W, Below C W w → C ≤ B → Below C W w') → wpList Tryd.prog ops Q rest (a.put o.dst v') w') : wpList Tryd.prog ops Q (o :: rest) a w := by
  obtain ⟨i0, z, hi, hz, hz1, hz2, hz3⟩ := info_some Tryd.iEnt
  refine wpList_append_own w hgd s x 35 ho B 89 i0 z 7 56 Tryd.underlying35 hi hz hz1 hz2 hz3 (by decide) v es.length _ hs hown.row ad 1 1 (enEnt e) hx rfl hnews (enEnt_one [e] |> fun h u hu => h u (by simpa using hu)) (by unfold maxLen; omega) (by omega) hbase ?_
  intro v' w' hown' hg _
  refine h v' w' ?_ fun C W hb hC => Below.grown hb hg (by omega) (fun j hj => by have := (hown.lt j hj).1; omega)
  have : (es ++ [e]).flatMap enEnt = es.flatMap enEnt ++ enEnt e := by simp
  refine ⟨?_⟩
  rw [this, List.length_append]
  exact hown'
end Go.Proofs.YtalnnghnipoogaaDoor
