/- Texts of mine that come as one: AllA AllB AllK. -/
import Derived.Test.YtalnnghnipoogaaDoorMerged
import Derived.Test.YtalnnghnipoogaaDoorPA
import Derived.Test.YtalnnghnipoogaaDoorNG
import Derived.Laws.OwnMore
/- What the walk of tree.All needs: appending entries to a row of one's own; the state of its closure. -/
namespace Go.Proofs.YtalnnghnipoogaaDoor
open Go.RowKit

set_option maxRecDepth 100000 in
theorem run_append_ents {B : Nat} {w : World} {v vx : Value} {es xs : List Ent} (ho : OwnEnts B w v es) (hx : EntsAt w vx xs) (h1 : es.length + xs.length ≤ 1000000) (hB : B ≤ w.heap.size) (ty : TypeId) :
    ∃ v' w', (Builtin.append_ #[35, 35] ty #[v, vx]).run Tryd.prog w = .ok v' w' ∧ OwnEnts B w' v' (es ++ xs) ∧ w.grownBy w' v.ownBlock ∧ (v'.ownBlock = v.ownBlock ∨ v'.ownBlock = some w.heap.size) := by
  obtain ⟨i0, z, hi0, hz, hz1, hz2, hz3⟩ := info_some Tryd.iEnt
  have h := hx
  obtain ⟨ao, cap, rfl, a1, a2, a3, a4, a5⟩ := hx
  cases ao with
  | none =>
    have h0 : xs.length = 0 := by have := a4 rfl; omega
    obtain rfl := List.eq_nil_of_length_eq_zero h0
    obtain rfl : cap = 0 := a4 rfl
    refine ⟨v, w, run_append_owned_none w B 35 ty 89 i0 7 Tryd.underlying35 hi0 v es.length _ ho.row, by simpa using ho, ⟨rfl, rfl, rfl, Nat.le_refl _, fun _ _ _ => rfl⟩, .inl rfl⟩
  | some ad =>
    obtain ⟨_, g1, g2⟩ := h.news enEnt_length
    obtain ⟨v', w', hr, h2, h3, _, h5⟩ := run_append_own_at (P := Tryd.prog) w B 35 ty 89 i0 z 7 56 Tryd.underlying35 hi0 hz hz1 hz2 hz3 (by decide) v es.length _ ho.row ad xs.length cap (xs.flatMap enEnt) g1 g2 (enEnt_one xs) (by unfold maxLen; omega) (by omega) hB
    refine ⟨v', w', hr, ⟨?_⟩, h3, h5⟩
    rw [List.flatMap_append, List.length_append]; exact h2
theorem step_append_ran {P : Program} {ops : Array Oper} {o : Oper} {a : Act} {w : World} {K : Act → World → Prop} {Q : Exit → Act → World → Prop} {E : Prop}
    (hg : o.guard = none) (d x : Operand) (dT sT : TypeId) (hop : o.op = Op.call { callee := Callee.builtin Builtin.append, args := #[d, x], argTypes := #[dT, sT] })
    (v u : Value) (hd : a.eval d = v) (hx : a.eval x = u) {v' : Value} {w' : World} (hr : (Builtin.append_ #[dT, sT] o.type #[v, u]).run P w = .ok v' w') (hK : K (a.put o.dst v') w') :
    if Region.wanted o (yielded ops a.tmps) = true then Oper.wp P o a w K Q else E := by
  have hw : Region.wanted o (yielded ops a.tmps) = true := by simp [Region.wanted, hg]
  rw [if_pos hw]
  unfold Oper.wp execOp
  simp only [hop, resolve, invoke, builtin, Sem.run_bind, Sem.run_pure, Result.andThen_ok, List.map_toArray, List.map_cons, List.map_nil, hd, hx, hr]
  exact hK

structure AllAt (w0 : World) (ob : Nat) (tv : Value) (root lo hi : Int) (w : World) (st : Option (List Ent)) : Prop where
  below : Below w0.heap.size w0 w
  lt : w0.heap.size + 2 < ob
  size : ob + 2 < w.heap.size
  box : w.heap[w0.heap.size]? = some (.cells #[tv, .int .i64 root] 25)
  low : w.heap[w0.heap.size + 1]? = some (.cells #[.int .i64 lo] 3)
  high : w.heap[w0.heap.size + 2]? = some (.cells #[.int .i64 hi] 3)
  err : w.heap[ob + 1]? = some (.cells #[.int .i64 (if st.isSome then 0 else 1)] 32)
  walk : w.heap[ob + 2]? = some (.cells #[.func (.func 88) #[] #[.pointer (some ⟨w0.heap.size, 0, none⟩), .pointer (some ⟨w0.heap.size + 1, 0, none⟩), .pointer (some ⟨w0.heap.size + 2, 0, none⟩), .pointer (some ⟨ob + 1, 0, none⟩), .pointer (some ⟨ob, 0, none⟩), .pointer (some ⟨ob + 2, 0, none⟩)]] 135)
  out : ∃ v, w.heap[ob]? = some (.cells #[v] 35) ∧ (∀ b, v.ownBlock = some b → ob + 2 < b ∧ b < w.heap.size) ∧ ∀ es, st = some es → OwnEnts (ob + 3) w v es
def OutRow (ob : Nat) (w : World) (b : Nat) : Prop := ∃ v, w.heap[ob]? = some (.cells #[v] 35) ∧ v.ownBlock = some b
structure AllTurn (ob : Nat) (w w' : World) : Prop where
  turn : Turn (fun b => b = ob ∨ b = ob + 1 ∨ OutRow ob w b) w w'
  row : ∀ b, OutRow ob w' b → OutRow ob w b ∨ w.heap.size ≤ b
theorem AllTurn.refl (ob : Nat) (w : World) : AllTurn ob w w := ⟨Turn.refl _ _, fun _ h => .inl h⟩
theorem AllTurn.trans {ob : Nat} {a b c : World} (h : AllTurn ob a b) (k : AllTurn ob b c) : AllTurn ob a c := by
  refine ⟨h.turn.trans' k.turn fun i hi hx => ?_, fun i hi => ?_⟩
  · rcases hx with hx | hx | hx
    · exact .inl hx
    · exact .inr (.inl hx)
    · rcases h.row i hx with h1 | h1
      · exact .inr (.inr h1)
      · omega
  · have := h.turn.size
    rcases k.row i hi with h1 | h1
    · rcases h.row i h1 with h2 | h2
      · exact .inl h2
      · exact .inr h2
    · exact .inr (by omega)
theorem AllTurn.of {ob B : Nat} {w w' : World} (h : Below B w w') (hB : w.heap.size ≤ B) (hob : ob < w.heap.size) : AllTurn ob w w' :=
  ⟨Turn.of h hB, fun b ⟨v, h1, h2⟩ => .inl ⟨v, (h.block ob (by omega)).symm.trans h1, h2⟩⟩
theorem AllAt.later {w0 : World} {ob : Nat} {tv : Value} {root lo hi : Int} {w w' : World} {st : Option (List Ent)} (h : AllAt w0 ob tv root lo hi w st) {C : Nat} (hb : Below C w w') (hC : w.heap.size ≤ C) : AllAt w0 ob tv root lo hi w' st := by
  have hs := h.size
  have hl := h.lt
  have hz := hb.size
  obtain ⟨v, o1, o2, o3⟩ := h.out
  have g : ∀ b, b < w.heap.size → w'.heap[b]? = w.heap[b]? := fun b hlt => hb.block b (by omega)
  exact ⟨Below.trans' h.below (hb.mono hC) h.below.size, hl, by omega, (g _ (by omega)).trans h.box, (g _ (by omega)).trans h.low, (g _ (by omega)).trans h.high, (g _ (by omega)).trans h.err, (g _ (by omega)).trans h.walk, v, (g _ (by omega)).trans o1, fun b hb => ⟨(o2 b hb).1, Nat.lt_of_lt_of_le (o2 b hb).2 hz⟩, fun es he => (o3 es he).below hb hC⟩
theorem AllAt.row {w0 : World} {ob : Nat} {tv : Value} {root lo hi : Int} {w : World} {st : Option (List Ent)} (h : AllAt w0 ob tv root lo hi w st) {b : Nat} (hb : OutRow ob w b) : ob + 2 < b ∧ b < w.heap.size := by
  obtain ⟨v, o1, o2, _⟩ := h.out
  obtain ⟨u, h1, h2⟩ := hb
  rw [o1] at h1
  obtain rfl : v = u := by simpa using h1
  exact o2 b h2
theorem AllTurn.stay {ob : Nat} {w w' : World} (h : AllTurn ob w w') {b : Nat} (hb : b < w.heap.size) (h1 : b ≠ ob) (h2 : b ≠ ob + 1) (h3 : ¬ OutRow ob w b) : w'.heap[b]? = w.heap[b]? :=
  h.turn.block b hb (fun hx => by rcases hx with hx | hx | hx; exact h1 hx; exact h2 hx; exact h3 hx)
end Go.Proofs.YtalnnghnipoogaaDoor

/- The state of tree.All's closure, behind a call of 'merged' and two stores. -/
namespace Go.Proofs.YtalnnghnipoogaaDoor
open Go.RowKit

theorem vis_self {t : Tr} {f : Nat} {n a b : Int} {l : List Int} {h : Nat} (hv : vis t (f + 1) n a b = some (l, h)) : n ∈ l := by
  obtain ⟨x, hx⟩ := vis_at hv
  obtain ⟨_, ⟨_, _, rfl, _⟩ | ⟨_, _, l', h', _, rfl, _⟩⟩ := vis_inner hv hx <;> simp
theorem vis_few {t : Tr} {f : Nat} {n a b : Int} {l : List Int} {h : Nat} {x : Nd} (hv : vis t (f + 1) n a b = some (l, h)) (hx : t.at? n = some x) : x.buf.length + x.ents.length ≤ 14 := by
  have := vis_small hv n (vis_self hv)
  have hof : t.of n = x.ents ++ x.buf := by unfold Tr.of; rw [hx]
  rw [hof, List.length_append] at this; omega
theorem heap_set1 {w : World} {b : Nat} {u v : Value} {T : TypeId} {fr : Nat × Nat} (h : w.heap[b]? = some (.cells #[u] T fr)) : (w.setCell ⟨b, 0, none⟩ v).heap[b]? = some (.cells #[v] T fr) := by
  have := heap_setCell_same (off := 0) (v := v) h
  simpa using this
theorem AllAt.stored {w0 : World} {ob : Nat} {tv : Value} {root lo hi : Int} {wr w' : World} {st st' : Option (List Ent)} (h : AllAt w0 ob tv root lo hi wr st) {v v' : Value} {E : Int}
    (hv : wr.heap[ob]? = some (.cells #[v] 35)) (hT : Turn (fun b => v.ownBlock = some b) wr w') (hv' : ∀ b, v'.ownBlock = some b → v.ownBlock = some b ∨ wr.heap.size ≤ b) (hE : E = if st'.isSome then 0 else 1) (hlt' : ∀ b, v'.ownBlock = some b → b < w'.heap.size)
    (hO : ∀ es, st' = some es → OwnEnts (ob + 3) w' v' es) :
    AllAt w0 ob tv root lo hi ((w'.setCell ⟨ob, 0, none⟩ v').setCell ⟨ob + 1, 0, none⟩ (.int .i64 E)) st' ∧ AllTurn ob wr ((w'.setCell ⟨ob, 0, none⟩ v').setCell ⟨ob + 1, 0, none⟩ (.int .i64 E)) ∧
      ∀ b, OutRow ob ((w'.setCell ⟨ob, 0, none⟩ v').setCell ⟨ob + 1, 0, none⟩ (.int .i64 E)) b → v.ownBlock = some b ∨ wr.heap.size ≤ b := by
  have hl := h.lt
  have hz := h.size
  have hb := h.below.size
  have hT1 := hT.size
  obtain ⟨u, o1, o2, o3⟩ := h.out
  obtain rfl : u = v := by rw [hv] at o1; simpa using o1.symm
  have g : ∀ b, b < wr.heap.size → b ≤ ob + 2 → w'.heap[b]? = wr.heap[b]? := fun b hb1 hb2 => hT.block b hb1 (fun hx => by have := (o2 b hx).1; omega)
  have g2 : ∀ b, b ≠ ob → b ≠ ob + 1 → ((w'.setCell ⟨ob, 0, none⟩ v').setCell ⟨ob + 1, 0, none⟩ (.int .i64 E)).heap[b]? = w'.heap[b]? := fun b h1 h2 => by
    rw [Below.heap_setCell _ _ _ _ (by show b ≠ ob + 1; exact h2), Below.heap_setCell _ _ _ _ (by show b ≠ ob; exact h1)]
  have hout : ((w'.setCell ⟨ob, 0, none⟩ v').setCell ⟨ob + 1, 0, none⟩ (.int .i64 E)).heap[ob]? = some (.cells #[v'] 35) := by
    rw [Below.heap_setCell _ _ _ _ (by show ob ≠ ob + 1; omega)]
    exact heap_set1 ((g ob (by omega) (by omega)).trans hv)
  have hrow : ∀ b, OutRow ob ((w'.setCell ⟨ob, 0, none⟩ v').setCell ⟨ob + 1, 0, none⟩ (.int .i64 E)) b → u.ownBlock = some b ∨ wr.heap.size ≤ b := fun b ⟨x, hx1, hx2⟩ => by
    rw [hout] at hx1
    obtain rfl : v' = x := by simpa using hx1
    exact hv' b hx2
  refine ⟨⟨?_, hl, by simp; omega, ?_, ?_, ?_, ?_, ?_, v', hout, fun b hb' => ⟨?_, by simp; exact hlt' b hb'⟩, fun es he => ?_⟩, ⟨⟨?_, ?_, ?_, by simp; exact hT1, fun b hb1 hx => ?_⟩, fun b hb' => ?_⟩, hrow⟩
  · have h1 : Below w0.heap.size w0 w' := hT.below h.below hb (fun i hi => by have := (o2 i hi).1; omega)
    exact (h1.setCell (by show w0.heap.size ≤ ob; omega) _).setCell (by show w0.heap.size ≤ ob + 1; omega) _
  · rw [g2 _ (by omega) (by omega), g _ (by omega) (by omega)]; exact h.box
  · rw [g2 _ (by omega) (by omega), g _ (by omega) (by omega)]; exact h.low
  · rw [g2 _ (by omega) (by omega), g _ (by omega) (by omega)]; exact h.high
  · rw [hE]
    refine heap_set1 (u := .int .i64 (if st.isSome then 0 else 1)) ?_
    rw [Below.heap_setCell _ _ _ _ (by show ob + 1 ≠ ob; omega), g _ (by omega) (by omega)]; exact h.err
  · rw [g2 _ (by omega) (by omega), g _ (by omega) (by omega)]; exact h.walk
  · rcases hv' b hb' with h1 | h1
    · exact (o2 b h1).1
    · omega
  · exact (hO es he).block fun b hb' => g2 b (by rcases hv' b hb' with h1 | h1; have := (o2 b h1).1; omega; omega) (by rcases hv' b hb' with h1 | h1; have := (o2 b h1).1; omega; omega)
  · exact hT.os
  · exact hT.tape
  · exact hT.output
  · rw [g2 b (fun e => hx (.inl e)) (fun e => hx (.inr (.inl e)))]
    exact hT.block b hb1 (fun e => hx (.inr (.inr ⟨u, hv, e⟩)))
  · rcases hrow b hb' with h1 | h1
    · exact .inl ⟨u, hv, h1⟩
    · exact .inr h1
end Go.Proofs.YtalnnghnipoogaaDoor

/- What the second loop of tree.All's closure needs. -/
namespace Go.Proofs.YtalnnghnipoogaaDoor
open Go.RowKit

theorem visKids_get {go : Int → Int → Int → Option (List Int × Nat)} {x : Nd} {a b : Int} : ∀ {ks : List Int} {i : Nat} {l : List Int} {h : Nat}, visKids go x a b ks i = some (l, h) → ∀ (m : Nat) (K : Int), ks[m]? = some K → ∃ a' b' l' h', go K a' b' = some (l', h')
  | [], _, _, _, _ => fun _ _ hm => by simp at hm
  | k :: ks, i, l, h, hv => by
    unfold visKids at hv
    split at hv
    · split at hv
      · rename_i l1 h1 l2 h2 e1 e2
        intro m K hm
        cases m with
        | zero => simp only [List.getElem?_cons_zero, Option.some.injEq] at hm; subst hm; exact ⟨_, _, _, _, e1⟩
        | succ m => exact visKids_get e2 m K (by simpa using hm)
      · cases hv
    · cases hv
theorem vis_kidAt {t : Tr} {f : Nat} {n a b : Int} {l : List Int} {h : Nat} {x : Nd} (hv : vis t (f + 1) n a b = some (l, h)) (hx : t.at? n = some x) :
    x.kids.length ≤ 4 ∧ (x.kids ≠ [] → x.keys.length + 1 = x.kids.length) ∧ ∀ (m : Nat) (K : Int), x.kids[m]? = some K → ∃ a' b' l' h', vis t f K a' b' = some (l', h') := by
  obtain ⟨_, ⟨_, hl, _, _⟩ | ⟨_, hi, l', h', hk, _, _⟩⟩ := vis_inner hv hx
  · obtain ⟨_, h2, _⟩ := hl
    rw [h2]
    exact ⟨by simp, fun h => absurd rfl h, fun _ _ hm => by simp at hm⟩
  · obtain ⟨_, _, h3, h4, _⟩ := hi
    exact ⟨h3, fun _ => h4, fun m K hm => visKids_get hk m K hm⟩
theorem kidsL_append {go : Int → List Ent} {x : Nd} {lo hi : Int} : ∀ (ps bs : List Int) (i : Nat), kidsL go x lo hi (ps ++ bs) i = kidsL go x lo hi ps i ++ kidsL go x lo hi bs (i + ps.length)
  | [], bs, i => by simp [kidsL]
  | a :: ps, bs, i => by
    rw [List.cons_append, kidsL, kidsL, kidsL_append ps bs (i + 1), List.append_assoc, List.length_cons, show i + (ps.length + 1) = i + 1 + ps.length from by omega]
theorem kidsL_take {go : Int → List Ent} {x : Nd} {lo hi : Int} {k : Nat} {K : Int} (h : x.kids[k]? = some K) :
    kidsL go x lo hi (x.kids.take (k + 1)) 0 = kidsL go x lo hi (x.kids.take k) 0 ++ (if goesTo x lo hi k then go K else []) := by
  obtain ⟨hk, rfl⟩ := List.getElem?_eq_some_iff.1 h
  rw [List.take_succ_eq_append_getElem hk, kidsL_append, Nat.zero_add, List.length_take, Nat.min_eq_left (by omega)]
  simp [kidsL]
theorem kidsL_part {go : Int → List Ent} {x : Nd} {lo hi : Int} (k : Nat) : ∃ R, kidsL go x lo hi x.kids 0 = kidsL go x lo hi (x.kids.take k) 0 ++ R :=
  ⟨_, by rw [← kidsL_append, List.take_append_drop]⟩

theorem goesTo_yes {x : Nd} {lo hi : Int} {m : Nat} (h1 : m ≠ 0 → ∃ F, x.keys[m - 1]? = some F ∧ F < hi) (h2 : m ≠ x.keys.length → ∃ T, x.keys[m]? = some T ∧ lo < T) : goesTo x lo hi m = true := by
  simp only [goesTo, Bool.and_eq_true, Bool.or_eq_true, decide_eq_true_eq, List.getD_eq_getElem?_getD]
  refine ⟨?_, ?_⟩
  · by_cases h : m = 0
    · exact .inl h
    · obtain ⟨F, e, h⟩ := h1 h; rw [e]; exact .inr h
  · by_cases h : m = x.keys.length
    · exact .inl h
    · obtain ⟨T, e, h⟩ := h2 h; rw [e]; exact .inr h
theorem goesTo_no1 {x : Nd} {lo hi : Int} {m : Nat} {F : Int} (h0 : m ≠ 0) (h1 : x.keys[m - 1]? = some F) (h2 : ¬ F < hi) : goesTo x lo hi m = false := by
  simp only [goesTo, List.getD_eq_getElem?_getD, h1]
  simp [h0, h2]
theorem goesTo_no2 {x : Nd} {lo hi : Int} {m : Nat} {T : Int} (h1 : x.keys[m]? = some T) (h2 : ¬ lo < T) : goesTo x lo hi m = false := by
  have h3 := (List.getElem?_eq_some_iff.1 h1).1
  have h4 : m ≠ x.keys.length := by omega
  simp only [goesTo, List.getD_eq_getElem?_getD, h1]
  simp [h4, h2]

structure Mid (w0 : World) (ob : Nat) (tv : Value) (root lo hi : Int) (w : World) (nb : Nat) (bo : Option Obj) (wr : World) (st : Option (List Ent)) : Prop where
  at_ : AllAt w0 ob tv root lo hi wr st
  turn : AllTurn ob w wr
  node : wr.heap[nb]? = bo
  lt : ob + 2 < nb ∧ nb < wr.heap.size
  row : ∀ b, OutRow ob wr b → b ≠ nb
theorem Mid.next {w0 : World} {ob : Nat} {tv : Value} {root lo hi : Int} {w : World} {nb : Nat} {bo : Option Obj} {wr w' : World} {st st' : Option (List Ent)} (h : Mid w0 ob tv root lo hi w nb bo wr st)
    (ha : AllAt w0 ob tv root lo hi w' st') (ht : AllTurn ob wr w') : Mid w0 ob tv root lo hi w nb bo w' st' := by
  obtain ⟨h1, h2, h3, ⟨h4, h5⟩, h6⟩ := h
  refine ⟨ha, h2.trans ht, (ht.stay h5 (by omega) (by omega) (fun hx => h6 _ hx rfl)).trans h3, ⟨h4, by have := ht.turn.size; omega⟩, fun b hb => ?_⟩
  rcases ht.row b hb with h | h
  · exact h6 b h
  · omega
theorem Mid.later {w0 : World} {ob : Nat} {tv : Value} {root lo hi : Int} {w : World} {nb : Nat} {bo : Option Obj} {wr w' : World} {st : Option (List Ent)} (h : Mid w0 ob tv root lo hi w nb bo wr st) {C : Nat}
    (hb : Below C wr w') (hC : wr.heap.size ≤ C) : Mid w0 ob tv root lo hi w nb bo w' st :=
  h.next (h.at_.later hb hC) (AllTurn.of hb hC (by have := h.at_.size; omega))
theorem Mid.list {w0 : World} {ob : Nat} {tv : Value} {root lo hi : Int} {w : World} {nb : Nat} {bo : Option Obj} {wr w' : World} {st : Option (List Ent)} (_h : Mid w0 ob tv root lo hi w nb bo wr st)
    (ht : AllTurn ob wr w') {B : Nat} {v : Value} {LL : List Ent} (hB : ob + 2 < B) (ho : OwnEnts B wr v LL) (hr : ∀ b, OutRow ob wr b → v.ownBlock ≠ some b) :
    OwnEnts B w' v LL ∧ ∀ b, OutRow ob w' b → v.ownBlock ≠ some b := by
  refine ⟨ho.block fun g hg => ht.stay (ho.lt g hg).2 (by have := (ho.lt g hg).1; omega) (by have := (ho.lt g hg).1; omega) (fun hx => hr g hx hg), fun b hb e => ?_⟩
  rcases ht.row b hb with h1 | h1
  · exact hr b h1 e
  · have := (ho.lt b e).2; omega
end Go.Proofs.YtalnnghnipoogaaDoor
