/- A row of entries of the call's own. -/
import Derived.Test.YtmpknhefkhjfpaaApp
namespace Go.Proofs.Ytmpknhefkhjfpaa
open Go.RowKit

@[simp, go_sem] theorem drew_size (w : World) : w.drew.heap.size = w.heap.size := rfl
/-- The slice value v is a row of the call's own (from block B on) that holds these entries. -/
structure OwnEnts (B : Nat) (w : World) (v : Value) (es : List Ent) : Prop where
  row : w.ownsRow B 70 7 v es.length (es.flatMap enEnt)
theorem OwnEnts.nil (B : Nat) (w : World) : OwnEnts B w (.slice none 0 0) [] := ⟨World.ownsRow_nil _ _ _ _⟩
theorem OwnEnts.alloc {B : Nat} {w : World} {v : Value} {es : List Ent} (h : OwnEnts B w v es) (o : Obj) : OwnEnts B (w.alloc o) v es := ⟨World.ownsRow.alloc h.row o⟩
theorem OwnEnts.block {B : Nat} {w w' : World} {v : Value} {es : List Ent} (h : OwnEnts B w v es) (hb : ∀ g, v.ownBlock = some g → w'.heap[g]? = w.heap[g]?) : OwnEnts B w' v es := by
  obtain ⟨hl, ⟨rfl, h0⟩ | ⟨g, cap, cur, rfl, hB, hg, h1, h2, h3, h4⟩⟩ := h.row
  · exact ⟨⟨hl, .inl ⟨rfl, h0⟩⟩⟩
  · exact ⟨⟨hl, .inr ⟨g, cap, cur, rfl, hB, (hb g rfl).trans hg, h1, h2, h3, h4⟩⟩⟩
theorem OwnEnts.drew {B : Nat} {w : World} {v : Value} {es : List Ent} (h : OwnEnts B w v es) : OwnEnts B w.drew v es := h.block fun _ _ => rfl
theorem OwnEnts.drewN {B : Nat} {w : World} {v : Value} {es : List Ent} (h : OwnEnts B w v es) (n : Nat) : OwnEnts B (w.drewN n) v es := h.block fun _ _ => rfl
theorem OwnEnts.lt {B : Nat} {w : World} {v : Value} {es : List Ent} (h : OwnEnts B w v es) : ∀ g, v.ownBlock = some g → B ≤ g ∧ g < w.heap.size := World.ownsRow.lt h.row
theorem OwnEnts.below {B C : Nat} {w w' : World} {v : Value} {es : List Ent} (h : OwnEnts B w v es) (hb : Below C w w') (hC : w.heap.size ≤ C) : OwnEnts B w' v es := h.block fun g hg => hb.block g (by have := (h.lt g hg).2; omega)
theorem OwnEnts.mono {B C : Nat} {w : World} {v : Value} {es : List Ent} (h : OwnEnts B w v es) (hC : C ≤ B) : OwnEnts C w v es := by
  obtain ⟨hl, ⟨rfl, h0⟩ | ⟨g, cap, cur, rfl, hB, hg, h1, h2, h3, h4⟩⟩ := h.row
  · exact ⟨⟨hl, .inl ⟨rfl, h0⟩⟩⟩
  · exact ⟨⟨hl, .inr ⟨g, cap, cur, rfl, by omega, hg, h1, h2, h3, h4⟩⟩⟩
theorem OwnEnts.at {B : Nat} {w : World} {v : Value} {es : List Ent} (h : OwnEnts B w v es) (hs : es.length ≤ 1000000) : EntsAt w v es := SlAt.owned enEnt_length h.row rfl (by omega)
theorem OwnEnts.isSlice {B : Nat} {w : World} {v : Value} {es : List Ent} (h : OwnEnts B w v es) : ∃ ao cap, v = .slice ao es.length cap := by
  obtain ⟨hl, ⟨rfl, h0⟩ | ⟨g, cap, cur, rfl, _⟩⟩ := h.row
  · exact ⟨none, 0, by rw [h0]⟩
  · exact ⟨_, _, rfl⟩
theorem drew_block {w : World} {b : Nat} {o : Option Obj} (h : w.heap[b]? = o) : w.drew.heap[b]? = o := h
theorem heap_set7 {w : World} {B : Nat} {a0 a1 a2 a3 a4 a5 a6 v0 v1 v2 v3 v4 v5 v6 : Value} {e : TypeId} {fr : Nat × Nat} (h : w.heap[B]? = some (.cells #[a0, a1, a2, a3, a4, a5, a6] e fr)) :
    (((((((w.setCell ⟨B, 0, none⟩ v0).setCell ⟨B, 1, none⟩ v1).setCell ⟨B, 2, none⟩ v2).setCell ⟨B, 3, none⟩ v3).setCell ⟨B, 4, none⟩ v4).setCell ⟨B, 5, none⟩ v5).setCell ⟨B, 6, none⟩ v6).heap[B]? = some (.cells #[v0, v1, v2, v3, v4, v5, v6] e fr) := by
  have h := heap_setCell_same (off := 6) (v := v6) (heap_setCell_same (off := 5) (v := v5) (heap_setCell_same (off := 4) (v := v4) (heap_setCell_same (off := 3) (v := v3) (heap_setCell_same (off := 2) (v := v2) (heap_setCell_same (off := 1) (v := v1) (heap_setCell_same (off := 0) (v := v0) h))))))
  simpa using h
theorem ent_new {w : World} {e : Ent} {T : TypeId} {j : Nat} {u : Value} (h : (enEnt e)[j]? = some u) :
    (w.alloc (.cells #[.int .i64 e.key, .int .i64 e.is.c, .int .i64 e.is.s, .int .i64 e.is.mi, .int .i64 e.is.ma, .int .i64 e.is.t, .int .i64 e.is.l] T)).cell? (Addr.add ⟨w.heap.size, 0, none⟩ j) = some u := by
  have hk : (w.alloc (.cells #[.int .i64 e.key, .int .i64 e.is.c, .int .i64 e.is.s, .int .i64 e.is.mi, .int .i64 e.is.ma, .int .i64 e.is.t, .int .i64 e.is.l] T)).heap[w.heap.size]? = some (.cells #[.int .i64 e.key, .int .i64 e.is.c, .int .i64 e.is.s, .int .i64 e.is.mi, .int .i64 e.is.ma, .int .i64 e.is.t, .int .i64 e.is.l] T) := by
    show (w.heap.push _)[w.heap.size]? = _; simp
  have ha : Addr.add ⟨w.heap.size, 0, none⟩ j = ⟨w.heap.size, j, none⟩ := by simp [Addr.add]; omega
  rw [ha]
  simp only [World.cell?, hk]
  simpa [enEnt] using h
/-- 'append' of one entry to such a row. -/
theorem wpList_append_ent {w : World} {ops : Array Oper} {rest : List Oper} {o : Oper} {a : Act} {Q : Exit → Act → World → Prop} (hgd : o.guard = none) (s x : Operand)
    (ho : o.op = .call { callee := .builtin .append, args := #[s, x], argTypes := #[47, 47] }) (B : Nat) (v : Value) (es : List Ent) (hs : a.eval s = v) (hown : OwnEnts B w v es)
    (ad : Addr) (e : Ent) (hx : a.eval x = .slice (some ad) 1 1) (hnews : ∀ j u, (enEnt e)[j]? = some u → w.cell? (ad.add j) = some u) (hlen : es.length ≤ 1000000) (hbase : B ≤ w.heap.size)
    (h : ∀ v' w', OwnEnts B w' v' (es ++ [e]) → (∀ C W, Below C W w → C ≤ B → Below C W w') → wpList Try.prog ops Q rest (a.put o.dst v') w') : wpList Try.prog ops Q (o :: rest) a w := by
  obtain ⟨i0, z, hi, hz, hz1, hz2, hz3⟩ := info_some Try.iEnt
  refine wpList_append_own w hgd s x 47 ho B 70 i0 z 7 56 Try.underlying47 hi hz hz1 hz2 hz3 (by decide) v es.length _ hs hown.row ad 1 1 (enEnt e) hx rfl hnews (enEnt_one [e] |> fun h u hu => h u (by simpa using hu)) (by unfold maxLen; omega) (by omega) hbase ?_
  intro v' w' hown' hg _
  refine h v' w' ?_ fun C W hb hC => Below.grown hb hg (by omega) (fun j hj => by have := (hown.lt j hj).1; omega)
  have : (es ++ [e]).flatMap enEnt = es.flatMap enEnt ++ enEnt e := by simp
  refine ⟨?_⟩
  rw [this, List.length_append]
  exact hown'
end Go.Proofs.Ytmpknhefkhjfpaa
