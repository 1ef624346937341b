/- Texts of mine that come as one: RowsP. -/
import Derived.Test.YtggcinmjmkfboaaDoorBK
import Derived.Test.YtggcinmjmkfboaaDoorPS
/- Rows and totals of a series: what the document computes, and that the trees of a base that may be know it. No program in sight. -/
namespace Go.Proofs.YtggcinmjmkfboaaDoor

theorem look_filter {p : Int → Bool} (l : List Ent) (k : Int) : look (l.filter fun e => p e.key) k = if p k = true then look l k else Roll.zero := by
  induction l with
  | nil => simp [look]
  | cons e l ih =>
    by_cases h : p e.key = true
    · rw [List.filter_cons_of_pos (by simpa using h)]
      simp only [look]
      by_cases hk : e.key = k
      · rw [if_pos hk, if_pos hk, ih]
        subst hk
        rw [if_pos h, if_pos h]
      · rw [if_neg hk, if_neg hk, ih]
    · rw [List.filter_cons_of_neg (by simpa using h), ih]
      simp only [look]
      by_cases hk : e.key = k
      · subst hk; rw [if_neg h, if_neg h]
      · rw [if_neg hk]
theorem rising_filter {l : List Ent} (h : Rising l) (p : Ent → Bool) : Rising (l.filter p) := List.Pairwise.sublist List.filter_sublist h
theorem goods_filter {l : List Ent} (h : Goods l) (p : Ent → Bool) : Goods (l.filter p) := fun e he => h e (List.mem_filter.1 he).1
/-- What comes together within a range is what of all that comes together is within it. -/
theorem bagC_filter {l es : List Ent} (hl : Checked l) (h : bagC l = some es) (p : Int → Bool) : bagC (l.filter fun e => p e.key) = some (es.filter fun e => p e.key) := by
  obtain ⟨h1, h2, _, _, h5⟩ := bagC_some hl h
  have hs : Small (l.filter fun e => p e.key) := fun k => by
    rw [look_filter]
    split
    · exact h2 k
    · decide
  rw [bagC_eq (checked_filter hl), if_pos hs]
  congr 1
  refine look_ext (bag_rising (goods_filter hl.goods _)) (rising_filter h5 _) (bag_goods (goods_filter hl.goods _)) (goods_filter (by rw [h1]; exact bag_goods hl.goods) _) fun k => ?_
  rw [look_bag (goods_filter hl.goods _), look_filter, look_filter, h1, look_bag hl.goods]
theorem allR_sub {t : Tr} {m : List Ent} (h : allT t = some m) (lo hi : Int) : treeFault t = 0 ∧ allR t lo hi = some (m.filter (inRange lo hi)) := by
  unfold allT at h
  split at h
  · rename_i hf
    refine ⟨hf, ?_⟩
    obtain ⟨_, hv⟩ := treeFault_ok hf
    unfold allR at *
    have hall : t.all.filter (inRange 0 1099511627776) = t.all := List.filter_eq_self.2 fun e he => by
      have := valid_range hv e he
      simp [inRange]; omega
    rw [hall] at h
    exact bagC_filter (valid_checked hv) h fun k => decide (lo ≤ k) && decide (k < hi)
  · cases h
/-- What a base that may be knows: its book, and of each size its buckets, in its trees. -/
theorem base_knows {b : Ba} (h : baseMay b = true) : ∃ l, bookR b = some l ∧ Rising l ∧ PGood l ∧ ∀ k, k < 3 → ∃ m, rolledR l (szOf k) = some m ∧ allT (b.tree k) = some m := by
  obtain ⟨l, hl, ht⟩ := (baseMay_ok h).trees
  refine ⟨l, hl, (bookR_good hl).1, (bookR_good hl).2, fun k hk => ?_⟩
  have := ht k hk
  unfold treeOk at this
  cases h1 : rolledR l (szOf k) with
  | none => rw [h1] at this; cases this
  | some a =>
    cases h2 : allT (b.tree k) with
    | none => rw [h1, h2] at this; cases this
    | some c =>
      rw [h1, h2] at this
      have hac : a = c := by simpa using this
      exact ⟨a, rfl, by rw [hac]⟩

def rowsOk (a z : Int) : Prop := 0 ≤ a ∧ a ≤ z ∧ z ≤ 1048575
instance (a z : Int) : Decidable (rowsOk a z) := by unfold rowsOk; infer_instance
end Go.Proofs.YtggcinmjmkfboaaDoor
