/- All entries of a tree that may be, one by one: plain steps. No program in sight. -/
import Derived.Test.YtmpknhefkhjfpaaWithP
namespace Go.Proofs.Ytmpknhefkhjfpaa

theorem treeFault_ok {t : Tr} (h : treeFault t = 0) : t.nodes.length ≤ 2000 ∧ ValidT t := by
  unfold treeFault at h
  split at h
  · cases h
  · split at h
    · exact ⟨by omega, ‹_›⟩
    · cases h
theorem treeFault_of {t : Tr} (h : t.nodes.length ≤ 2000) (hv : ValidT t) : treeFault t = 0 := by
  unfold treeFault; rw [if_neg (by omega), if_pos hv]
theorem vis_small {t : Tr} : ∀ {f : Nat} {n lo hi : Int} {l : List Int} {h : Nat}, vis t f n lo hi = some (l, h) → ∀ y ∈ l, (t.of y).length ≤ 14 := by
  intro f
  induction f with
  | zero => intro n lo hi l h hv; cases hv
  | succ f ih =>
    intro n lo hi l h hv y hy
    obtain ⟨x, hx⟩ := vis_at hv
    have hof : t.of n = x.ents ++ x.buf := by unfold Tr.of; rw [hx]
    obtain ⟨_, ⟨_, hok, rfl, _⟩ | ⟨_, hok, l', h', hk, rfl, _⟩⟩ := vis_inner hv hx
    · obtain rfl := List.mem_singleton.1 hy
      rw [hof, List.length_append, hok.2.2.1]; have := hok.2.2.2.1; simp; omega
    · rcases List.mem_cons.1 hy with rfl | hy
      · rw [hof, List.length_append, hok.1]; have := hok.2.2.2.2.1; simp; omega
      · exact visKids_mem (P := fun y => (t.of y).length ≤ 14) (fun k a b l h hv => ih hv) hk y hy
theorem flat_len {α β : Type} {f : α → List β} {m : Nat} : ∀ {l : List α}, (∀ y ∈ l, (f y).length ≤ m) → (l.flatMap f).length ≤ m * l.length
  | [], _ => by simp
  | a :: l, h => by
    have h1 := h a (by simp)
    have h2 := flat_len (l := l) fun y hy => h y (by simp [hy])
    rw [List.flatMap_cons, List.length_append, List.length_cons, Nat.mul_add]; omega
theorem valid_len {t : Tr} (h : ValidT t) : t.all.length ≤ 14 * t.nodes.length := by
  obtain ⟨l, hh, e, hn, hl⟩ := h
  rw [← (valid_perm e hn hl).length_eq, ← hl]
  exact flat_len (vis_small e)

/-- Entries, one by one, come together. -/
theorem bagC_snoc (l : List Ent) (y : Ent) : bagC (l ++ [y]) = (bagC l).bind fun es => insC es y := by
  unfold bagC; rw [List.foldlM_append]
  cases h : List.foldlM insC [] l with
  | none => rfl
  | some es => simp [List.foldlM_cons]
theorem bagC_none {l m : List Ent} (h : bagC l = none) : bagC (l ++ m) = none := by
  unfold bagC at h ⊢; rw [List.foldlM_append, h]; rfl
theorem ins_length (l : List Ent) (x : Ent) : (ins l x).length ≤ l.length + 1 := by
  induction l with
  | nil => simp [ins]
  | cons e l ih =>
    unfold ins
    split
    · simp only [List.length_cons]; omega
    · split
      · simp
      · simp
theorem foldl_ins_length : ∀ (l m : List Ent), (l.foldl ins m).length ≤ m.length + l.length
  | [], m => by simp
  | x :: l, m => by
    rw [List.foldl_cons, List.length_cons]
    have := foldl_ins_length l (ins m x); have := ins_length m x; omega
theorem bagC_some {l es : List Ent} (hl : Checked l) (h : bagC l = some es) : es = bag l ∧ Small l ∧ Checked es ∧ es.length ≤ l.length ∧ Rising es := by
  rw [bagC_eq hl] at h
  split at h
  · rename_i hs
    simp only [Option.some.injEq] at h
    subst h
    refine ⟨rfl, hs, bag_checked hl.goods hs, ?_, bag_rising hl.goods⟩
    have := foldl_ins_length l []; simpa [bag] using this
  · cases h

def Nd.all (x : Nd) : List Ent := x.ents ++ x.buf
/-- Behind i nodes, and k entries of the next one. -/
def upTo (t : Tr) (i : Nat) (x : Nd) (k : Nat) : List Ent := (t.nodes.take i).flatMap Nd.all ++ x.all.take k
theorem upTo_sub {t : Tr} {i : Nat} {x : Nd} (hx : t.nodes[i]? = some x) (k : Nat) : ∃ m, t.all = upTo t i x k ++ m := by
  obtain ⟨hi, rfl⟩ := List.getElem?_eq_some_iff.1 hx
  refine ⟨t.nodes[i].all.drop k ++ (t.nodes.drop (i + 1)).flatMap Nd.all, ?_⟩
  show t.nodes.flatMap Nd.all = _
  conv => lhs; rw [← List.take_append_drop i t.nodes, List.drop_eq_getElem_cons hi, List.flatMap_append, List.flatMap_cons]
  unfold upTo
  rw [List.append_assoc]
  congr 1
  rw [← List.append_assoc, List.take_append_drop]
def AllRel (t : Tr) (lo hi : Int) (i : Nat) (x : Nd) (k : Nat) (es : List Ent) : Prop := bagC ((upTo t i x k).filter (inRange lo hi)) = some es
theorem allRel_start (t : Tr) (lo hi : Int) (x : Nd) : AllRel t lo hi 0 x 0 [] := by simp [AllRel, upTo, bagC]
theorem allRel_node {t : Tr} {lo hi : Int} {i : Nat} {x y : Nd} {es : List Ent} (h : AllRel t lo hi i x 0 es) : AllRel t lo hi i y 0 es := by
  unfold AllRel upTo at *; simpa using h
theorem allRel_next {t : Tr} {lo hi : Int} {i : Nat} {x y : Nd} {k : Nat} {es : List Ent} (hx : t.nodes[i]? = some x) (hk : x.all.length ≤ k) (h : AllRel t lo hi i x k es) : AllRel t lo hi (i + 1) y 0 es := by
  obtain ⟨hi, rfl⟩ := List.getElem?_eq_some_iff.1 hx
  unfold AllRel upTo at *
  rw [List.take_of_length_le hk] at h
  rw [List.take_succ_eq_append_getElem hi, List.flatMap_append, List.flatMap_singleton, List.take_zero, List.append_nil]
  exact h
theorem allRel_skip {t : Tr} {lo hi : Int} {i : Nat} {x : Nd} {k : Nat} {es : List Ent} (hk : k < x.all.length) (h : AllRel t lo hi i x k es) (hr : inRange lo hi x.all[k] = false) : AllRel t lo hi i x (k + 1) es := by
  unfold AllRel upTo at *
  rw [List.take_succ_eq_append_getElem hk, ← List.append_assoc, List.filter_append, List.filter_cons_of_neg (by simp [hr]), List.filter_nil, List.append_nil]
  exact h
theorem allRel_take {t : Tr} {lo hi : Int} {i : Nat} {x : Nd} {k : Nat} {es es' : List Ent} (hk : k < x.all.length) (h : AllRel t lo hi i x k es) (hr : inRange lo hi x.all[k] = true) (hi' : insC es x.all[k] = some es') : AllRel t lo hi i x (k + 1) es' := by
  unfold AllRel upTo at *
  rw [List.take_succ_eq_append_getElem hk, ← List.append_assoc, List.filter_append, List.filter_cons_of_pos hr, List.filter_nil, bagC_snoc, h]
  exact hi'
theorem allRel_stop {t : Tr} {lo hi : Int} {i : Nat} {x : Nd} {k : Nat} {es : List Ent} (hx : t.nodes[i]? = some x) (hk : k < x.all.length) (h : AllRel t lo hi i x k es) (hr : inRange lo hi x.all[k] = true) (hi' : insC es x.all[k] = none) : allR t lo hi = none := by
  obtain ⟨m, hm⟩ := upTo_sub hx (k + 1)
  unfold allR
  rw [hm, List.filter_append]
  refine bagC_none ?_
  unfold AllRel at h
  unfold upTo at *
  rw [List.take_succ_eq_append_getElem hk, ← List.append_assoc, List.filter_append, List.filter_cons_of_pos hr, List.filter_nil, bagC_snoc, h]
  exact hi'
theorem allRel_end {t : Tr} {lo hi : Int} {i : Nat} {x : Nd} {es : List Ent} (hi' : t.nodes.length ≤ i) (h : AllRel t lo hi i x 0 es) : allR t lo hi = some es := by
  unfold AllRel upTo at h
  rw [List.take_of_length_le hi'] at h
  rw [List.take_zero, List.append_nil] at h
  exact h
theorem allRel_some {t : Tr} {lo hi : Int} {i : Nat} {x : Nd} {k : Nat} {es : List Ent} (hf : treeFault t = 0) (hx : t.nodes[i]? = some x) (h : AllRel t lo hi i x k es) : Checked es ∧ es.length ≤ 28000 := by
  obtain ⟨hn, hv⟩ := treeFault_ok hf
  obtain ⟨m, hm⟩ := upTo_sub hx k
  have hc : Checked (upTo t i x k) := fun e he => valid_checked hv e (by rw [hm]; simp [he])
  obtain ⟨_, _, h1, h2, _⟩ := bagC_some (checked_filter hc) h
  refine ⟨h1, ?_⟩
  have h3 := List.length_filter_le (inRange lo hi) (upTo t i x k)
  have h4 := valid_len hv
  rw [hm, List.length_append] at h4
  omega
theorem all_checked {t : Tr} {i : Nat} {x : Nd} {k : Nat} (hf : treeFault t = 0) (hx : t.nodes[i]? = some x) (hk : k < x.all.length) : rollCheck x.all[k].is = 0 := by
  obtain ⟨hn, hv⟩ := treeFault_ok hf
  refine (valid_checked hv _ ?_).2
  unfold Tr.all
  exact List.mem_flatMap.2 ⟨x, List.mem_of_getElem? hx, List.getElem_mem hk⟩
end Go.Proofs.Ytmpknhefkhjfpaa
