/- What the walk of tree.All needs: appending entries to a row of one's own; the state of its closure. -/
import Derived.Test.YtmpknhefkhjfpaaMerged
import Derived.Test.YtmpknhefkhjfpaaPA
import Derived.Test.YtmpknhefkhjfpaaClone
import Derived.Laws.OwnMore
namespace Go.Proofs.Ytmpknhefkhjfpaa
open Go.RowKit

set_option maxRecDepth 100000 in
theorem run_append_ents {B : Nat} {w : World} {v vx : Value} {es xs : List Ent} (ho : OwnEnts B w v es) (hx : EntsAt w vx xs) (h1 : es.length + xs.length ≤ 1000000) (hB : B ≤ w.heap.size) (ty : TypeId) :
    ∃ v' w', (Builtin.append_ #[47, 47] ty #[v, vx]).run Try.prog w = .ok v' w' ∧ OwnEnts B w' v' (es ++ xs) ∧ w.grownBy w' v.ownBlock ∧ (v'.ownBlock = v.ownBlock ∨ v'.ownBlock = some w.heap.size) := by
  obtain ⟨i0, z, hi0, hz, hz1, hz2, hz3⟩ := info_some Try.iEnt
  have h := hx
  obtain ⟨ao, cap, rfl, a1, a2, a3, a4, a5⟩ := hx
  cases ao with
  | none =>
    have h0 : xs.length = 0 := by have := a4 rfl; omega
    obtain rfl := List.eq_nil_of_length_eq_zero h0
    obtain rfl : cap = 0 := a4 rfl
    refine ⟨v, w, run_append_owned_none w B 47 ty 70 i0 7 Try.underlying47 hi0 v es.length _ ho.row, by simpa using ho, ⟨rfl, rfl, rfl, Nat.le_refl _, fun _ _ _ => rfl⟩, .inl rfl⟩
  | some ad =>
    obtain ⟨_, g1, g2⟩ := h.news enEnt_length
    obtain ⟨v', w', hr, h2, h3, _, h5⟩ := run_append_own_at (P := Try.prog) w B 47 ty 70 i0 z 7 56 Try.underlying47 hi0 hz hz1 hz2 hz3 (by decide) v es.length _ ho.row ad xs.length cap (xs.flatMap enEnt) g1 g2 (enEnt_one xs) (by unfold maxLen; omega) (by omega) hB
    refine ⟨v', w', hr, ⟨?_⟩, h3, h5⟩
    rw [List.flatMap_append, List.length_append]; exact h2
theorem step_append_ran {P : Program} {ops : Array Oper} {o : Oper} {a : Act} {w : World} {K : Act → World → Prop} {Q : Exit → Act → World → Prop} {E : Prop}
    (hg : o.guard = none) (d x : Operand) (dT sT : TypeId) (hop : o.op = Op.call { callee := Callee.builtin Builtin.append, args := #[d, x], argTypes := #[dT, sT] })
    (v u : Value) (hd : a.eval d = v) (hx : a.eval x = u) {v' : Value} {w' : World} (hr : (Builtin.append_ #[dT, sT] o.type #[v, u]).run P w = .ok v' w') (hK : K (a.put o.dst v') w') :
    if Region.wanted o (yielded ops a.tmps) = true then Oper.wp P o a w K Q else E := by
  have hw : Region.wanted o (yielded ops a.tmps) = true := by simp [Region.wanted, hg]
  rw [if_pos hw]
  unfold Oper.wp execOp
  simp only [hop, resolve, invoke, builtin, Sem.run_bind, Sem.run_pure, Result.andThen_ok, List.map_toArray, List.map_cons, List.map_nil, hd, hx, hr]
  exact hK

/-- The blocks of tree.All's closure: the tree's box tb, low tb+1, high tb+2; what came out ob, the error ob+1, the closure itself ob+2. -/
structure AllAt (w0 : World) (ob : Nat) (tv : Value) (root lo hi : Int) (w : World) (st : Option (List Ent)) : Prop where
  below : Below w0.heap.size w0 w
  lt : w0.heap.size + 2 < ob
  size : ob + 2 < w.heap.size
  box : w.heap[w0.heap.size]? = some (.cells #[tv, .int .i64 root] 24)
  low : w.heap[w0.heap.size + 1]? = some (.cells #[.int .i64 lo] 3)
  high : w.heap[w0.heap.size + 2]? = some (.cells #[.int .i64 hi] 3)
  err : w.heap[ob + 1]? = some (.cells #[.int .i64 (if st.isSome then 0 else 1)] 40)
  walk : w.heap[ob + 2]? = some (.cells #[.func (.func 45) #[] #[.pointer (some ⟨w0.heap.size, 0, none⟩), .pointer (some ⟨w0.heap.size + 1, 0, none⟩), .pointer (some ⟨w0.heap.size + 2, 0, none⟩), .pointer (some ⟨ob + 1, 0, none⟩), .pointer (some ⟨ob, 0, none⟩), .pointer (some ⟨ob + 2, 0, none⟩)]] 85)
  out : ∃ v, w.heap[ob]? = some (.cells #[v] 47) ∧ (∀ b, v.ownBlock = some b → ob + 2 < b ∧ b < w.heap.size) ∧ ∀ es, st = some es → OwnEnts (ob + 3) w v es
/-- The row that is out. -/
def OutRow (ob : Nat) (w : World) (b : Nat) : Prop := ∃ v, w.heap[ob]? = some (.cells #[v] 47) ∧ v.ownBlock = some b
/-- What a step of the closure may turn. -/
structure AllTurn (ob : Nat) (w w' : World) : Prop where
  turn : Turn (fun b => b = ob ∨ b = ob + 1 ∨ OutRow ob w b) w w'
  row : ∀ b, OutRow ob w' b → OutRow ob w b ∨ w.heap.size ≤ b
theorem AllTurn.refl (ob : Nat) (w : World) : AllTurn ob w w := ⟨Turn.refl _ _, fun _ h => .inl h⟩
theorem AllTurn.trans {ob : Nat} {a b c : World} (h : AllTurn ob a b) (k : AllTurn ob b c) : AllTurn ob a c := by
  refine ⟨h.turn.trans' k.turn fun i hi hx => ?_, fun i hi => ?_⟩
  · rcases hx with hx | hx | hx
    · exact .inl hx
    · exact .inr (.inl hx)
    · rcases h.row i hx with h1 | h1
      · exact .inr (.inr h1)
      · omega
  · have := h.turn.size
    rcases k.row i hi with h1 | h1
    · rcases h.row i h1 with h2 | h2
      · exact .inl h2
      · exact .inr h2
    · exact .inr (by omega)
theorem AllTurn.of {ob B : Nat} {w w' : World} (h : Below B w w') (hB : w.heap.size ≤ B) (hob : ob < w.heap.size) : AllTurn ob w w' :=
  ⟨Turn.of h hB, fun b ⟨v, h1, h2⟩ => .inl ⟨v, (h.block ob (by omega)).symm.trans h1, h2⟩⟩
theorem AllAt.later {w0 : World} {ob : Nat} {tv : Value} {root lo hi : Int} {w w' : World} {st : Option (List Ent)} (h : AllAt w0 ob tv root lo hi w st) {C : Nat} (hb : Below C w w') (hC : w.heap.size ≤ C) : AllAt w0 ob tv root lo hi w' st := by
  have hs := h.size
  have hl := h.lt
  have hz := hb.size
  obtain ⟨v, o1, o2, o3⟩ := h.out
  have g : ∀ b, b < w.heap.size → w'.heap[b]? = w.heap[b]? := fun b hlt => hb.block b (by omega)
  exact ⟨Below.trans' h.below (hb.mono hC) h.below.size, hl, by omega, (g _ (by omega)).trans h.box, (g _ (by omega)).trans h.low, (g _ (by omega)).trans h.high, (g _ (by omega)).trans h.err, (g _ (by omega)).trans h.walk, v, (g _ (by omega)).trans o1, fun b hb => ⟨(o2 b hb).1, Nat.lt_of_lt_of_le (o2 b hb).2 hz⟩, fun es he => (o3 es he).below hb hC⟩
theorem AllAt.row {w0 : World} {ob : Nat} {tv : Value} {root lo hi : Int} {w : World} {st : Option (List Ent)} (h : AllAt w0 ob tv root lo hi w st) {b : Nat} (hb : OutRow ob w b) : ob + 2 < b ∧ b < w.heap.size := by
  obtain ⟨v, o1, o2, _⟩ := h.out
  obtain ⟨u, h1, h2⟩ := hb
  rw [o1] at h1
  obtain rfl : v = u := by simpa using h1
  exact o2 b h2
/-- A block that is none of those that may turn stays. -/
theorem AllTurn.stay {ob : Nat} {w w' : World} (h : AllTurn ob w w') {b : Nat} (hb : b < w.heap.size) (h1 : b ≠ ob) (h2 : b ≠ ob + 1) (h3 : ¬ OutRow ob w b) : w'.heap[b]? = w.heap[b]? :=
  h.turn.block b hb (fun hx => by rcases hx with hx | hx | hx; exact h1 hx; exact h2 hx; exact h3 hx)
end Go.Proofs.Ytmpknhefkhjfpaa
