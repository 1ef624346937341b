/- What the second loop of tree.All's closure needs. -/
import Derived.Test.YtmpknhefkhjfpaaAllB
namespace Go.Proofs.Ytmpknhefkhjfpaa
open Go.RowKit

theorem visKids_get {go : Int → Int → Int → Option (List Int × Nat)} {x : Nd} {a b : Int} : ∀ {ks : List Int} {i : Nat} {l : List Int} {h : Nat}, visKids go x a b ks i = some (l, h) → ∀ (m : Nat) (K : Int), ks[m]? = some K → ∃ a' b' l' h', go K a' b' = some (l', h')
  | [], _, _, _, _ => fun _ _ hm => by simp at hm
  | k :: ks, i, l, h, hv => by
    unfold visKids at hv
    split at hv
    · split at hv
      · rename_i l1 h1 l2 h2 e1 e2
        intro m K hm
        cases m with
        | zero => simp only [List.getElem?_cons_zero, Option.some.injEq] at hm; subst hm; exact ⟨_, _, _, _, e1⟩
        | succ m => exact visKids_get e2 m K (by simpa using hm)
      · cases hv
    · cases hv
theorem vis_kidAt {t : Tr} {f : Nat} {n a b : Int} {l : List Int} {h : Nat} {x : Nd} (hv : vis t (f + 1) n a b = some (l, h)) (hx : t.at? n = some x) :
    x.kids.length ≤ 4 ∧ (x.kids ≠ [] → x.keys.length + 1 = x.kids.length) ∧ ∀ (m : Nat) (K : Int), x.kids[m]? = some K → ∃ a' b' l' h', vis t f K a' b' = some (l', h') := by
  obtain ⟨_, ⟨_, hl, _, _⟩ | ⟨_, hi, l', h', hk, _, _⟩⟩ := vis_inner hv hx
  · obtain ⟨_, h2, _⟩ := hl
    rw [h2]
    exact ⟨by simp, fun h => absurd rfl h, fun _ _ hm => by simp at hm⟩
  · obtain ⟨_, _, h3, h4, _⟩ := hi
    exact ⟨h3, fun _ => h4, fun m K hm => visKids_get hk m K hm⟩
theorem kidsL_append {go : Int → List Ent} {x : Nd} {lo hi : Int} : ∀ (ps bs : List Int) (i : Nat), kidsL go x lo hi (ps ++ bs) i = kidsL go x lo hi ps i ++ kidsL go x lo hi bs (i + ps.length)
  | [], bs, i => by simp [kidsL]
  | a :: ps, bs, i => by
    rw [List.cons_append, kidsL, kidsL, kidsL_append ps bs (i + 1), List.append_assoc, List.length_cons, show i + (ps.length + 1) = i + 1 + ps.length from by omega]
theorem kidsL_take {go : Int → List Ent} {x : Nd} {lo hi : Int} {k : Nat} {K : Int} (h : x.kids[k]? = some K) :
    kidsL go x lo hi (x.kids.take (k + 1)) 0 = kidsL go x lo hi (x.kids.take k) 0 ++ (if goesTo x lo hi k then go K else []) := by
  obtain ⟨hk, rfl⟩ := List.getElem?_eq_some_iff.1 h
  rw [List.take_succ_eq_append_getElem hk, kidsL_append, Nat.zero_add, List.length_take, Nat.min_eq_left (by omega)]
  simp [kidsL]
theorem kidsL_part {go : Int → List Ent} {x : Nd} {lo hi : Int} (k : Nat) : ∃ R, kidsL go x lo hi x.kids 0 = kidsL go x lo hi (x.kids.take k) 0 ++ R :=
  ⟨_, by rw [← kidsL_append, List.take_append_drop]⟩

theorem goesTo_yes {x : Nd} {lo hi : Int} {m : Nat} (h1 : m ≠ 0 → ∃ F, x.keys[m - 1]? = some F ∧ F < hi) (h2 : m ≠ x.keys.length → ∃ T, x.keys[m]? = some T ∧ lo < T) : goesTo x lo hi m = true := by
  simp only [goesTo, Bool.and_eq_true, Bool.or_eq_true, decide_eq_true_eq, List.getD_eq_getElem?_getD]
  refine ⟨?_, ?_⟩
  · by_cases h : m = 0
    · exact .inl h
    · obtain ⟨F, e, h⟩ := h1 h; rw [e]; exact .inr h
  · by_cases h : m = x.keys.length
    · exact .inl h
    · obtain ⟨T, e, h⟩ := h2 h; rw [e]; exact .inr h
theorem goesTo_no1 {x : Nd} {lo hi : Int} {m : Nat} {F : Int} (h0 : m ≠ 0) (h1 : x.keys[m - 1]? = some F) (h2 : ¬ F < hi) : goesTo x lo hi m = false := by
  simp only [goesTo, List.getD_eq_getElem?_getD, h1]
  simp [h0, h2]
theorem goesTo_no2 {x : Nd} {lo hi : Int} {m : Nat} {T : Int} (h1 : x.keys[m]? = some T) (h2 : ¬ lo < T) : goesTo x lo hi m = false := by
  have h3 := (List.getElem?_eq_some_iff.1 h1).1
  have h4 : m ≠ x.keys.length := by omega
  simp only [goesTo, List.getD_eq_getElem?_getD, h1]
  simp [h4, h2]

/-- What stays while the closure goes over a node's kids. -/
structure Mid (w0 : World) (ob : Nat) (tv : Value) (root lo hi : Int) (w : World) (nb : Nat) (bo : Option Obj) (wr : World) (st : Option (List Ent)) : Prop where
  at_ : AllAt w0 ob tv root lo hi wr st
  turn : AllTurn ob w wr
  node : wr.heap[nb]? = bo
  lt : ob + 2 < nb ∧ nb < wr.heap.size
  row : ∀ b, OutRow ob wr b → b ≠ nb
theorem Mid.next {w0 : World} {ob : Nat} {tv : Value} {root lo hi : Int} {w : World} {nb : Nat} {bo : Option Obj} {wr w' : World} {st st' : Option (List Ent)} (h : Mid w0 ob tv root lo hi w nb bo wr st)
    (ha : AllAt w0 ob tv root lo hi w' st') (ht : AllTurn ob wr w') : Mid w0 ob tv root lo hi w nb bo w' st' := by
  obtain ⟨h1, h2, h3, ⟨h4, h5⟩, h6⟩ := h
  refine ⟨ha, h2.trans ht, (ht.stay h5 (by omega) (by omega) (fun hx => h6 _ hx rfl)).trans h3, ⟨h4, by have := ht.turn.size; omega⟩, fun b hb => ?_⟩
  rcases ht.row b hb with h | h
  · exact h6 b h
  · omega
theorem Mid.later {w0 : World} {ob : Nat} {tv : Value} {root lo hi : Int} {w : World} {nb : Nat} {bo : Option Obj} {wr w' : World} {st : Option (List Ent)} (h : Mid w0 ob tv root lo hi w nb bo wr st) {C : Nat}
    (hb : Below C wr w') (hC : wr.heap.size ≤ C) : Mid w0 ob tv root lo hi w nb bo w' st :=
  h.next (h.at_.later hb hC) (AllTurn.of hb hC (by have := h.at_.size; omega))
/-- Beside 'Mid': a row of entries of one's own. -/
theorem Mid.list {w0 : World} {ob : Nat} {tv : Value} {root lo hi : Int} {w : World} {nb : Nat} {bo : Option Obj} {wr w' : World} {st : Option (List Ent)} (h : Mid w0 ob tv root lo hi w nb bo wr st)
    (ht : AllTurn ob wr w') {B : Nat} {v : Value} {LL : List Ent} (hB : ob + 2 < B) (ho : OwnEnts B wr v LL) (hr : ∀ b, OutRow ob wr b → v.ownBlock ≠ some b) :
    OwnEnts B w' v LL ∧ ∀ b, OutRow ob w' b → v.ownBlock ≠ some b := by
  refine ⟨ho.block fun g hg => ht.stay (ho.lt g hg).2 (by have := (ho.lt g hg).1; omega) (by have := (ho.lt g hg).1; omega) (fun hx => hr g hx hg), fun b hb e => ?_⟩
  rcases ht.row b hb with h1 | h1
  · exact hr b h1 e
  · have := (ho.lt b e).2; omega
end Go.Proofs.Ytmpknhefkhjfpaa
