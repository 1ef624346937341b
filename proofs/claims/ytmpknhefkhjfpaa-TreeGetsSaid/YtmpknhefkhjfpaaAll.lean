/- What a tree knows: the program's walk over its kids and the document's over all its nodes come to one. No program in sight. -/
import Derived.Test.YtmpknhefkhjfpaaVis
namespace Go.Proofs.Ytmpknhefkhjfpaa

def inRange (lo hi : Int) (e : Ent) : Bool := decide (lo ≤ e.key) && decide (e.key < hi)
/-- All entries, node by node. -/
def Tr.all (t : Tr) : List Ent := t.nodes.flatMap fun x => x.ents ++ x.buf
/-- What the document's 'AllOf' answers of a tree that may be: none: they can't come together. -/
def allR (t : Tr) (lo hi : Int) : Option (List Ent) := bagC (t.all.filter (inRange lo hi))

/-- Is a node's kid one that the program's 'All' goes to? -/
def goesTo (x : Nd) (lo hi : Int) (i : Nat) : Bool := (decide (i = 0) || decide (x.keys.getD (i - 1) 0 < hi)) && (decide (i = x.keys.length) || decide (lo < x.keys.getD i 0))
def kidsL (go : Int → List Ent) (x : Nd) (lo hi : Int) : List Int → Nat → List Ent
  | [], _ => []
  | k :: ks, i => (if goesTo x lo hi i then go k else []) ++ kidsL go x lo hi ks (i + 1)
/-- The entries that the program's 'All' comes to, in its order. -/
def walkL (t : Tr) (lo hi : Int) : Nat → Int → List Ent
  | 0, _ => []
  | f + 1, n =>
    match t.at? n with
    | none => []
    | some x => (x.buf ++ x.ents).filter (inRange lo hi) ++ kidsL (fun k => walkL t lo hi f k) x lo hi x.kids 0

/-- The entries of a node by its number. -/
def Tr.of (t : Tr) (n : Int) : List Ent := match t.at? n with | none => [] | some x => x.ents ++ x.buf

theorem filter_out {l : List Ent} {lo hi : Int} (h : ∀ e ∈ l, e.key < lo ∨ hi ≤ e.key) : l.filter (inRange lo hi) = [] := by
  rw [List.filter_eq_nil_iff]
  intro e he
  have := h e he
  simp [inRange]; omega

theorem perm_swap3 {α : Type} (a b c : List α) : (a ++ (b ++ c)).Perm (b ++ (a ++ c)) := by
  rw [← List.append_assoc, ← List.append_assoc]
  exact List.Perm.append_right c List.perm_append_comm

/-- What the walk comes to below a node: its entries, those within the range; all lie within the node's bounds. -/
theorem kidsL_perm {t : Tr} {x : Nd} {a b lo hi : Int} {go : Int → List Ent} {gv : Int → Int → Int → Option (List Int × Nat)}
    (hgo : ∀ k a b l h, gv k a b = some (l, h) → (go k).Perm ((l.flatMap t.of).filter (inRange lo hi)) ∧ ∀ e ∈ l.flatMap t.of, a ≤ e.key ∧ e.key < b) :
    ∀ (ks : List Int) (i : Nat) (l : List Int) (h : Nat), i + ks.length ≤ x.keys.length + 1 → visKids gv x a b ks i = some (l, h) →
      (kidsL go x lo hi ks i).Perm ((l.flatMap t.of).filter (inRange lo hi)) ∧ ∀ e ∈ l.flatMap t.of, a ≤ e.key ∧ e.key < b := by
  intro ks
  induction ks with
  | nil => intro i l h _ hv; simp [visKids] at hv; simp [kidsL, hv.1]
  | cons k ks ih =>
    intro i l h hi0 hv
    simp only [List.length_cons] at hi0
    unfold visKids at hv
    split at hv
    · rename_i hc
      split at hv
      · rename_i l1 h1 l2 h2 e1 e2
        split at hv
        · simp only [Option.some.injEq, Prod.mk.injEq] at hv
          obtain ⟨rfl, -⟩ := hv
          obtain ⟨p1, q1⟩ := hgo _ _ _ _ _ e1
          obtain ⟨p2, q2⟩ := ih (i + 1) l2 h2 (by omega) e2
          rw [List.flatMap_append, List.filter_append]
          refine ⟨?_, fun e he => ?_⟩
          · unfold kidsL
            refine List.Perm.append ?_ p2
            by_cases hg : goesTo x lo hi i = true
            · rw [if_pos hg]; exact p1
            · rw [if_neg hg]
              rw [filter_out]
              intro e he
              have hr := q1 e he
              simp only [goesTo, Bool.and_eq_true, Bool.or_eq_true, decide_eq_true_eq] at hg
              by_cases g1 : i = 0 ∨ x.keys.getD (i - 1) 0 < hi
              · left
                have g2 : ¬ (i = x.keys.length ∨ lo < x.keys.getD i 0) := fun h => hg ⟨g1, h⟩
                simp only [Nd.upto] at hr
                rw [if_pos (by omega)] at hr; omega
              · right
                simp only [Nd.from] at hr
                rw [if_neg (by omega)] at hr; omega
          · rcases List.mem_append.1 he with he | he
            · have := q1 e he; omega
            · exact q2 e he
        · cases hv
      · cases hv
    · cases hv
theorem walkL_perm {t : Tr} {lo hi : Int} : ∀ (f : Nat) (n a b : Int) (l : List Int) (h : Nat), vis t f n a b = some (l, h) →
    (walkL t lo hi f n).Perm ((l.flatMap t.of).filter (inRange lo hi)) ∧ (∀ e ∈ l.flatMap t.of, a ≤ e.key ∧ e.key < b) := by
  intro f
  induction f with
  | zero => intro n a b l h hv; cases hv
  | succ f ih =>
    intro n a b l h hv
    unfold vis at hv
    unfold walkL
    cases hx : t.at? n with
    | none => rw [hx] at hv; cases hv
    | some x =>
      rw [hx] at hv
      simp only at hv ⊢
      have hof : t.of n = x.ents ++ x.buf := by unfold Tr.of; rw [hx]
      split at hv
      · cases hv
      · split at hv
        · split at hv
          · rename_i hok
            simp only [Option.some.injEq, Prod.mk.injEq] at hv
            obtain ⟨rfl, -⟩ := hv
            obtain ⟨k1, k2, k3, k4, k5, k6⟩ := hok
            simp only [List.flatMap_cons, List.flatMap_nil, List.append_nil, hof, k2, k3, kidsL, List.nil_append]
            exact ⟨List.Perm.refl _, k6.2.1⟩
          · cases hv
        · split at hv
          · rename_i hok
            obtain ⟨p, hp, he⟩ := Option.map_eq_some_iff.1 hv
            simp only [Prod.mk.injEq] at he
            obtain ⟨rfl, -⟩ := he
            obtain ⟨k1, k2, k3, k4, k5, k6⟩ := hok
            obtain ⟨q1, q2⟩ := kidsL_perm (t := t) (lo := lo) (hi := hi) (go := fun k => walkL t lo hi f k) (fun k a b l h hv => ih k a b l h hv) x.kids 0 p.1 p.2 (by omega) hp
            simp only [List.flatMap_cons, hof, k1, List.nil_append, List.append_nil, List.filter_append]
            refine ⟨List.Perm.append_left _ q1, fun e he => ?_⟩
            rcases List.mem_append.1 he with he | he
            · exact k6.2.1 e he
            · exact q2 e he
          · cases hv

theorem flat_range {α : Type} (f : Nd → List α) (g : Nat → List α) : ∀ (xs : List Nd) (s : Nat), (∀ j x, xs[j]? = some x → g (s + j) = f x) → (List.range' s xs.length).flatMap g = xs.flatMap f
  | [], s, _ => rfl
  | x :: xs, s, h => by
    rw [List.length_cons, List.range'_succ, List.flatMap_cons, List.flatMap_cons, flat_range f g xs (s + 1) (fun j y hy => by rw [show s + 1 + j = s + (j + 1) from by omega]; exact h (j + 1) y (by simpa using hy))]
    rw [show g s = f x from by simpa using h 0 x rfl]
theorem flat_ups (t : Tr) : (ups t.nodes.length).flatMap t.of = t.all := by
  unfold ups Tr.all
  rw [List.flatMap_map, List.range_eq_range']
  refine flat_range _ _ t.nodes 0 fun j x hx => ?_
  simp [Tr.of, Tr.at?, hx]
theorem perm_ups {l : List Int} {n : Nat} (h : l.Nodup) (hr : ∀ y ∈ l, 0 ≤ y ∧ y < (n : Int)) (hl : l.length = n) : l.Perm (ups n) := by
  refine (List.perm_ext_iff_of_nodup h (ups_nodup n)).2 fun a => ⟨fun ha => ups_mem.2 (hr a ha), fun ha => ?_⟩
  exact nodup_full (m := ups n) h (fun y hy => ups_mem.2 (hr y hy)) (by rw [ups_length, hl]; exact Nat.le_refl _) a ha
theorem valid_perm {t : Tr} {l : List Int} {h f : Nat} {a b : Int} (hv : vis t f t.root a b = some (l, h)) (hn : l.Nodup) (hl : l.length = t.nodes.length) : (l.flatMap t.of).Perm t.all := by
  rw [← flat_ups]
  exact List.Perm.flatMap_right _ (perm_ups hn (vis_mem hv) hl)

theorem visKids_checked {t : Tr} {x : Nd} {a b : Int} {gv : Int → Int → Int → Option (List Int × Nat)} (hgo : ∀ k a b l h, gv k a b = some (l, h) → Checked (l.flatMap t.of)) :
    ∀ (ks : List Int) (i : Nat) (l : List Int) (h : Nat), visKids gv x a b ks i = some (l, h) → Checked (l.flatMap t.of)
  | [], _, l, _, hv => by simp [visKids] at hv; rw [hv.1]; intro e he; simp at he
  | k :: ks, i, l, h, hv => by
    unfold visKids at hv
    split at hv
    · split at hv
      · rename_i l1 h1 l2 h2 e1 e2
        split at hv
        · simp only [Option.some.injEq, Prod.mk.injEq] at hv
          rw [← hv.1, List.flatMap_append]
          intro e he
          rcases List.mem_append.1 he with he | he
          · exact hgo _ _ _ _ _ e1 e he
          · exact visKids_checked hgo ks (i + 1) l2 h2 e2 e he
        · cases hv
      · cases hv
    · cases hv
theorem vis_checked {t : Tr} : ∀ (f : Nat) (n a b : Int) (l : List Int) (h : Nat), vis t f n a b = some (l, h) → Checked (l.flatMap t.of) := by
  intro f
  induction f with
  | zero => intro n a b l h hv; cases hv
  | succ f ih =>
    intro n a b l h hv
    unfold vis at hv
    cases hx : t.at? n with
    | none => rw [hx] at hv; cases hv
    | some x =>
      rw [hx] at hv
      simp only at hv
      have hof : t.of n = x.ents ++ x.buf := by unfold Tr.of; rw [hx]
      split at hv
      · cases hv
      · split at hv
        · split at hv
          · rename_i hok
            simp only [Option.some.injEq, Prod.mk.injEq] at hv
            obtain ⟨rfl, -⟩ := hv
            obtain ⟨k1, k2, k3, k4, k5, k6⟩ := hok
            simp only [List.flatMap_cons, List.flatMap_nil, List.append_nil, hof, k3]
            exact k6.1
          · cases hv
        · split at hv
          · rename_i hok
            obtain ⟨p, hp, he⟩ := Option.map_eq_some_iff.1 hv
            simp only [Prod.mk.injEq] at he
            obtain ⟨rfl, -⟩ := he
            obtain ⟨k1, k2, k3, k4, k5, k6⟩ := hok
            simp only [List.flatMap_cons, hof, k1, List.nil_append]
            intro e he
            rcases List.mem_append.1 he with he | he
            · exact k6.1 e he
            · exact visKids_checked (fun k a b l h hv => ih k a b l h hv) x.kids 0 p.1 p.2 hp e he
          · cases hv
theorem valid_checked {t : Tr} (hv : ValidT t) : Checked t.all := by
  obtain ⟨l, h, e, hn, hl⟩ := hv
  intro x hx
  exact vis_checked _ _ _ _ _ _ e x ((valid_perm e hn hl).mem_iff.2 hx)
theorem valid_range {t : Tr} (hv : ValidT t) : ∀ e ∈ t.all, 0 ≤ e.key ∧ e.key < 1099511627776 := by
  obtain ⟨l, h, e, hn, hl⟩ := hv
  intro x hx
  exact (walkL_perm (lo := 0) (hi := 0) _ _ _ _ _ _ e).2 x ((valid_perm e hn hl).mem_iff.2 hx)
theorem checked_filter {l : List Ent} {p : Ent → Bool} (h : Checked l) : Checked (l.filter p) := fun e he => h e (List.mem_filter.1 he).1
/-- The program's 'All' is the document's. -/
theorem all_eq {t : Tr} (hv : ValidT t) (lo hi : Int) : bagC (walkL t lo hi 12 t.root) = allR t lo hi := by
  have hc := valid_checked hv
  obtain ⟨l, h, e, hn, hl⟩ := hv
  have hp := (walkL_perm (lo := lo) (hi := hi) _ _ _ _ _ _ e).1
  have hq := (valid_perm e hn hl).filter (inRange lo hi)
  exact bagC_perm (hp.trans hq) (fun x hx => checked_filter hc x ((hp.trans hq).mem_iff.1 hx))
end Go.Proofs.Ytmpknhefkhjfpaa
