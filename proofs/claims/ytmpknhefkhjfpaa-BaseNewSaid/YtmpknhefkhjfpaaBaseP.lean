/- Which bases may be: what the document computes. No program in sight. -/
import Derived.Test.YtmpknhefkhjfpaaPA
namespace Go.Proofs.Ytmpknhefkhjfpaa

/-- Entries that may come together one by one: each may be, the keys lie within bounds, and they are not too many. -/
def PGood (P : List Ent) : Prop := Checked P ∧ (∀ e ∈ P, 0 ≤ e.key ∧ e.key < 1099511627776) ∧ P.length ≤ 50000
theorem PGood.left {P Q : List Ent} (h : PGood (P ++ Q)) : PGood P :=
  ⟨fun e he => h.1 e (by simp [he]), fun e he => h.2.1 e (by simp [he]), by have := h.2.2; rw [List.length_append] at this; omega⟩
theorem bag_keys {l : List Ent} : ∀ {m : List Ent} {e : Ent}, e ∈ l.foldl ins m → ∃ y, (y ∈ l ∨ y ∈ m) ∧ y.key = e.key := by
  induction l with
  | nil => intro m e he; exact ⟨e, .inr he, rfl⟩
  | cons x l ih =>
    intro m e he
    rw [List.foldl_cons] at he
    obtain ⟨y, hy | hy, hk⟩ := ih he
    · exact ⟨y, .inl (by simp [hy]), hk⟩
    · rcases ins_keys hy with h | ⟨z, hz, h⟩
      · exact ⟨x, .inl (by simp), by omega⟩
      · exact ⟨z, .inr hz, by omega⟩
theorem pgood_some {P es : List Ent} (hP : PGood P) (h : bagC P = some es) : Rising es ∧ (∀ e ∈ es, rollCheck e.is = 0) ∧ (∀ e ∈ es, 0 ≤ e.key ∧ e.key < 1099511627776) ∧ es.length ≤ 50000 := by
  obtain ⟨h1, h2, h3, h4, h5⟩ := bagC_some hP.1 h
  refine ⟨h5, fun e he => (h3 e he).2, fun e he => ?_, by have := hP.2.2; omega⟩
  rw [h1] at he
  obtain ⟨y, hy | hy, hk⟩ := bag_keys he
  · have := hP.2.1 y hy; omega
  · cases hy
/-- What a tree knows between 0 and 2^40: none: it may not be, or its entries can't come together. -/
noncomputable def allT (t : Tr) : Option (List Ent) := if treeFault t = 0 then allR t 0 1099511627776 else none
theorem all_good {t : Tr} (h : treeFault t = 0) (lo hi : Int) : PGood (t.all.filter (inRange lo hi)) := by
  obtain ⟨h1, h2⟩ := treeFault_ok h
  refine ⟨checked_filter (valid_checked h2), fun e he => valid_range h2 e (List.mem_filter.1 he).1, ?_⟩
  have h3 := valid_len h2
  have h4 := List.length_filter_le (inRange lo hi) t.all
  omega
theorem pgood_bag {P es : List Ent} (hP : PGood P) (h : bagC P = some es) : PGood es := by
  obtain ⟨_, _, g3, g4⟩ := pgood_some hP h
  obtain ⟨_, _, h3, _, _⟩ := bagC_some hP.1 h
  exact ⟨h3, g3, g4⟩
theorem allR_good {t : Tr} {lo hi : Int} {l : List Ent} (hf : treeFault t = 0) (h : allR t lo hi = some l) : Rising l ∧ PGood l :=
  ⟨(pgood_some (all_good hf lo hi) h).1, pgood_bag (all_good hf lo hi) h⟩
theorem allT_good {t : Tr} {l : List Ent} (h : allT t = some l) : Rising l ∧ PGood l := by
  unfold allT at h
  split at h
  · rename_i hf; exact allR_good hf h
  · cases h

/-- An entry's bucket of a size. -/
def bucket (size : Int) (e : Ent) : Ent := ⟨e.key - e.key % 1048576 % size, e.is⟩
/-- Entries of points as those of buckets; none: they can't come together. -/
def rolledR (l : List Ent) (size : Int) : Option (List Ent) := bagC (l.map (bucket size))
theorem mod_le {m s : Int} (h : 0 ≤ m) (hs : 0 < s) : m % s ≤ m := by
  rw [Int.emod_def]
  have := Int.mul_nonneg (Int.le_of_lt hs) (Int.ediv_nonneg h (Int.le_of_lt hs))
  omega
theorem bucket_range {size : Int} (hs : 0 < size) {e : Ent} (h : 0 ≤ e.key ∧ e.key < 1099511627776) : 0 ≤ (bucket size e).key ∧ (bucket size e).key < 1099511627776 := by
  have h1 := Int.emod_nonneg e.key (show (1048576 : Int) ≠ 0 by decide)
  have h2 := Int.emod_nonneg (e.key % 1048576) (show size ≠ 0 by omega)
  have h3 : e.key % 1048576 % size ≤ e.key % 1048576 := mod_le h1 hs
  have h4 : e.key % 1048576 ≤ e.key := by omega
  show 0 ≤ e.key - e.key % 1048576 % size ∧ e.key - e.key % 1048576 % size < 1099511627776
  omega
theorem bucket_good {size : Int} (hs : 0 < size) {l : List Ent} (h : PGood l) : PGood (l.map (bucket size)) := by
  refine ⟨fun e he => ?_, fun e he => ?_, by rw [List.length_map]; exact h.2.2⟩
  · obtain ⟨y, hy, rfl⟩ := List.mem_map.1 he; exact h.1 y hy
  · obtain ⟨y, hy, rfl⟩ := List.mem_map.1 he; exact bucket_range hs (h.2.1 y hy)

structure Ba where
  names : List ByteArray
  t0 : Tr
  t1 : Tr
  t2 : Tr
  floor : Int
def bookOk (b : Ba) (e : Ent) : Bool := decide (e.key / 1048576 < b.names.length) && decide (b.floor ≤ e.key % 1048576) && decide (e.is.t = e.key % 1048576)
/-- What is known of points; none: it may not be. -/
noncomputable def bookR (b : Ba) : Option (List Ent) := match allT b.t0 with | none => none | some l => if l.all (bookOk b) then some l else none
theorem bookR_some {b : Ba} {l : List Ent} (h : bookR b = some l) : allT b.t0 = some l ∧ l.all (bookOk b) = true := by
  unfold bookR at h
  cases ht : allT b.t0 with
  | none => rw [ht] at h; cases h
  | some m =>
    rw [ht] at h
    simp only at h
    split at h
    · rename_i hb; simp only [Option.some.injEq] at h; subst h; exact ⟨rfl, hb⟩
    · cases h
/-- Does a tree know what the points' buckets come to? -/
noncomputable def treeOk (l : List Ent) (t : Tr) (size : Int) : Bool := match rolledR l size, allT t with | some a, some c => decide (a = c) | _, _ => false
def Ba.tree (b : Ba) (k : Nat) : Tr := if k = 0 then b.t0 else if k = 1 then b.t1 else b.t2
def szOf (k : Nat) : Int := if k = 0 then 1 else if k = 1 then 60 else 3600
theorem szOf_pos (k : Nat) : 0 < szOf k := by unfold szOf; split; decide; split <;> decide
end Go.Proofs.Ytmpknhefkhjfpaa
