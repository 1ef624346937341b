/- What a tree knows at a key: the program's way down and the document's look at all come to one. No program in sight. -/
import Derived.Test.YtmpknhefkhjfpaaAll
namespace Go.Proofs.Ytmpknhefkhjfpaa

/-- The kid for a key: how many keys lie at it or before. -/
def kidIx (keys : List Int) (key : Int) : Nat := (keys.takeWhile fun k => decide (k ≤ key)).length
theorem kidIx_le (keys : List Int) (key : Int) : kidIx keys key ≤ keys.length := by
  unfold kidIx
  have := List.takeWhile_prefix (fun k => decide (k ≤ key)) (l := keys)
  exact this.length_le
theorem kidIx_lo {keys : List Int} {key : Int} {j : Nat} (h : j < kidIx keys key) : keys.getD j 0 ≤ key := by
  unfold kidIx at h
  have hp := List.takeWhile_prefix (fun k => decide (k ≤ key)) (l := keys)
  have hl : j < keys.length := Nat.lt_of_lt_of_le h hp.length_le
  have e : (keys.takeWhile fun k => decide (k ≤ key))[j] = keys[j] := hp.getElem h
  have hm : (keys.takeWhile fun k => decide (k ≤ key))[j] ∈ keys.takeWhile fun k => decide (k ≤ key) := List.getElem_mem h
  have := List.all_eq_true.1 (List.all_takeWhile (p := fun k => decide (k ≤ key)) (l := keys)) _ hm
  simp only [decide_eq_true_eq] at this
  rw [List.getD_eq_getElem?_getD, List.getElem?_eq_getElem hl, Option.getD_some, ← e]; exact this
theorem kidIx_hi {keys : List Int} {key : Int} (h : kidIx keys key < keys.length) : key < keys.getD (kidIx keys key) 0 := by
  induction keys with
  | nil => simp at h
  | cons k ks ih =>
    unfold kidIx at h ⊢
    by_cases hk : k ≤ key
    · have e : ((k :: ks).takeWhile fun k => decide (k ≤ key)).length = kidIx ks key + 1 := by simp [kidIx, hk]
      rw [e] at h ⊢
      simp only [List.length_cons] at h
      simp only [List.getD_cons_succ]
      exact ih (by omega)
    · have e : ((k :: ks).takeWhile fun k => decide (k ≤ key)).length = 0 := by simp [hk]
      rw [e]
      simp; omega

/-- The entries at a key on the way down. -/
def pathL (t : Tr) (key : Int) : Nat → Int → List Ent
  | 0, _ => []
  | f + 1, n =>
    match t.at? n with
    | none => []
    | some x => if x.leaf = true then x.ents.filter (fun e => decide (e.key = key)) else x.buf.filter (fun e => decide (e.key = key)) ++ pathL t key f (x.kids.getD (kidIx x.keys key) 0)

theorem filter_key {l : List Ent} {key : Int} (h : ∀ e ∈ l, e.key ≠ key) : l.filter (fun e => decide (e.key = key)) = [] := by
  rw [List.filter_eq_nil_iff]; intro e he; simpa using h e he
/-- One kid has it: the others' bounds leave the key out. -/
theorem visKids_path {t : Tr} {x : Nd} {a b key : Int} {gv : Int → Int → Int → Option (List Int × Nat)}
    (hgo : ∀ k a b l h, gv k a b = some (l, h) → ∀ e ∈ l.flatMap t.of, a ≤ e.key ∧ e.key < b) :
    ∀ (ks : List Int) (i : Nat) (l : List Int) (h : Nat), i + ks.length = x.keys.length + 1 → visKids gv x a b ks i = some (l, h) →
      (i ≤ kidIx x.keys key → ∃ l' h', gv (ks.getD (kidIx x.keys key - i) 0) (x.from a (kidIx x.keys key)) (x.upto b (kidIx x.keys key)) = some (l', h') ∧
        (l.flatMap t.of).filter (fun e => decide (e.key = key)) = (l'.flatMap t.of).filter (fun e => decide (e.key = key))) ∧
      (kidIx x.keys key < i → (ks = [] ∨ key < x.from a i) → (l.flatMap t.of).filter (fun e => decide (e.key = key)) = []) := by
  intro ks
  have hle := kidIx_le x.keys key
  induction ks with
  | nil =>
    intro i l h hi hv
    simp [visKids] at hv
    refine ⟨fun h' => by simp at hi; omega, fun _ _ => by rw [hv.1]; rfl⟩
  | cons k ks ih =>
    intro i l h hi0 hv
    simp only [List.length_cons] at hi0
    unfold visKids at hv
    split at hv
    · rename_i hc
      split at hv
      · rename_i l1 h1 l2 h2 e1 e2
        split at hv
        · simp only [Option.some.injEq, Prod.mk.injEq] at hv
          obtain ⟨rfl, -⟩ := hv
          have q1 := hgo _ _ _ _ _ e1
          obtain ⟨p2, q2⟩ := ih (i + 1) l2 h2 (by omega) e2
          rw [List.flatMap_append, List.filter_append]
          have hup : ks = [] ∨ x.from a (i + 1) = x.upto b i := by
            by_cases hk : ks = []
            · exact .inl hk
            · right
              have : 0 < ks.length := List.length_pos_iff.2 hk
              simp only [Nd.from, Nd.upto, Nat.add_sub_cancel]
              rw [if_neg (by omega), if_pos (by omega)]
          refine ⟨fun hi => ?_, fun hi hk => ?_⟩
          · by_cases heq : i = kidIx x.keys key
            · refine ⟨l1, h1, by rw [← heq]; simpa using e1, ?_⟩
              have hkey : ks = [] ∨ key < x.from a (i + 1) := by
                rcases hup with h | h
                · exact .inl h
                · by_cases hks : ks = []
                  · exact .inl hks
                  · right
                    have : 0 < ks.length := List.length_pos_iff.2 hks
                    have := kidIx_hi (keys := x.keys) (key := key) (by omega)
                    rw [h]; simp only [Nd.upto]; rw [if_pos (by omega), heq]; exact this
              rw [q2 (by omega) hkey, List.append_nil]
            · have hlt : i < kidIx x.keys key := by omega
              obtain ⟨l', h', g1, g2⟩ := p2 (by omega)
              refine ⟨l', h', ?_, ?_⟩
              · rw [show kidIx x.keys key - i = (kidIx x.keys key - (i + 1)) + 1 from by omega, List.getD_cons_succ]; exact g1
              · rw [g2, filter_key, List.nil_append]
                intro e he
                have hr := q1 e he
                have := kidIx_lo (keys := x.keys) (key := key) hlt
                simp only [Nd.upto] at hr
                rw [if_pos (by omega)] at hr; omega
          · have hka : key < x.from a i := by rcases hk with h | h; cases h; exact h
            have hkn : ks = [] ∨ key < x.from a (i + 1) := by
              rcases hup with h | h
              · exact .inl h
              · right; rw [h]; omega
            rw [q2 (by omega) hkn, List.append_nil, filter_key]
            intro e he
            have hr := q1 e he
            omega
        · cases hv
      · cases hv
    · cases hv
/-- A step of the way down. -/
theorem vis_inner {t : Tr} {f : Nat} {n a b : Int} {l : List Int} {h : Nat} {x : Nd} (hv : vis t (f + 1) n a b = some (l, h)) (hx : t.at? n = some x) :
    a < b ∧ ((x.leaf = true ∧ LeafOk t n x a b ∧ l = [n] ∧ h = 1) ∨ (x.leaf = false ∧ InnOk x a b ∧ ∃ l' h', visKids (fun k a b => vis t f k a b) x a b x.kids 0 = some (l', h') ∧ l = n :: l' ∧ h = h' + 1)) := by
  have hlt := vis_lt hv
  refine ⟨hlt, ?_⟩
  unfold vis at hv
  rw [hx] at hv
  simp only at hv
  rw [if_neg (not_not_intro hlt)] at hv
  split at hv
  · rename_i hl
    split at hv
    · rename_i hok
      simp only [Option.some.injEq, Prod.mk.injEq] at hv
      exact .inl ⟨hl, hok, hv.1.symm, hv.2.symm⟩
    · cases hv
  · rename_i hl
    split at hv
    · rename_i hok
      obtain ⟨p, hp, he⟩ := Option.map_eq_some_iff.1 hv
      simp only [Prod.mk.injEq] at he
      exact .inr ⟨by simpa using hl, hok, p.1, p.2, hp, he.1.symm, he.2.symm⟩
    · cases hv
theorem vis_at {t : Tr} {f : Nat} {n a b : Int} {l : List Int} {h : Nat} (hv : vis t (f + 1) n a b = some (l, h)) : ∃ x, t.at? n = some x := by
  unfold vis at hv
  split at hv
  · cases hv
  · exact ⟨_, ‹_›⟩
theorem vis_range {t : Tr} {f : Nat} {n a b : Int} {l : List Int} {h : Nat} (hv : vis t f n a b = some (l, h)) : ∀ e ∈ l.flatMap t.of, a ≤ e.key ∧ e.key < b :=
  (walkL_perm (lo := 0) (hi := 0) _ _ _ _ _ _ hv).2
/-- The kid for a key, of a node that may be. -/
theorem vis_kid {t : Tr} {f : Nat} {n a b key : Int} {l : List Int} {h : Nat} {x : Nd} (hv : vis t (f + 1) n a b = some (l, h)) (hx : t.at? n = some x) (hl : x.leaf = false) (ha : a ≤ key) (hb : key < b) :
    kidIx x.keys key < x.kids.length ∧ ∃ a' b' l' h', vis t f (x.kids.getD (kidIx x.keys key) 0) a' b' = some (l', h') ∧ a' ≤ key ∧ key < b' ∧
      (l.flatMap t.of).filter (fun e => decide (e.key = key)) = x.buf.filter (fun e => decide (e.key = key)) ++ (l'.flatMap t.of).filter (fun e => decide (e.key = key)) := by
  obtain ⟨hlt, ⟨h1, _⟩ | ⟨_, hok, l1, h1, hk, rfl, rfl⟩⟩ := vis_inner hv hx
  · rw [hl] at h1; cases h1
  · obtain ⟨k1, k2, k3, k4, k5, k6⟩ := hok
    have hle := kidIx_le x.keys key
    obtain ⟨l', h', g1, g2⟩ := (visKids_path (t := t) (key := key) (fun k a b l h hv => vis_range hv) x.kids 0 l1 h1 (by omega) hk).1 (Nat.zero_le _)
    refine ⟨by omega, _, _, l', h', by simpa using g1, ?_, ?_, ?_⟩
    · unfold Nd.from
      split
      · exact ha
      · exact kidIx_lo (by omega)
    · unfold Nd.upto
      split
      · rename_i h; exact kidIx_hi h
      · exact hb
    · have hof : t.of n = x.ents ++ x.buf := by unfold Tr.of; rw [hx]
      rw [List.flatMap_cons, List.filter_append, hof, k1, List.nil_append, g2]
theorem pathL_eq {t : Tr} {key : Int} : ∀ (f : Nat) (n a b : Int) (l : List Int) (h : Nat), vis t f n a b = some (l, h) → a ≤ key → key < b →
    pathL t key f n = (l.flatMap t.of).filter (fun e => decide (e.key = key)) := by
  intro f
  induction f with
  | zero => intro n a b l h hv; cases hv
  | succ f ih =>
    intro n a b l h hv ha hb
    obtain ⟨x, hx⟩ := vis_at hv
    have hof : t.of n = x.ents ++ x.buf := by unfold Tr.of; rw [hx]
    unfold pathL
    rw [hx]
    simp only
    cases hl : x.leaf with
    | true =>
      obtain ⟨_, ⟨_, hok, rfl, _⟩ | ⟨h1, _⟩⟩ := vis_inner hv hx
      · rw [if_pos rfl]; simp [hof, hok.2.2.1]
      · rw [hl] at h1; cases h1
    | false =>
      rw [if_neg (by simp)]
      obtain ⟨_, a', b', l', h', g1, g2, g3, g4⟩ := vis_kid hv hx hl ha hb
      rw [g4, ih _ _ _ _ _ g1 g2 g3]

/-- Rolls that come together, one after the other. -/
def rollsC (r : Roll) (l : List Ent) : Option Roll := l.foldlM (fun r e => if r.c + e.is.c ≤ 1073741824 then some (r.join e.is) else none) r
theorem look_key {l : List Ent} {key : Int} : look (l.filter (fun e => decide (e.key = key))) key = look l key := by
  induction l with
  | nil => rfl
  | cons e l ih =>
    by_cases h : e.key = key
    · rw [List.filter_cons_of_pos (by simpa using h)]
      show (if e.key = key then _ else _) = (if e.key = key then _ else _)
      rw [if_pos h, if_pos h, ih]
    · rw [List.filter_cons_of_neg (by simpa using h), ih]
      show _ = (if e.key = key then _ else _)
      rw [if_neg h]
theorem rollsC_eq {l : List Ent} {r : Roll} {key : Int} (hk : ∀ e ∈ l, e.key = key) (hl : Goods l) (hr : r.Fine) (hc : r.c ≤ 1073741824) :
    rollsC r l = if r.c + (look l key).c ≤ 1073741824 then some (r.join (look l key)) else none := by
  unfold rollsC
  induction l generalizing r with
  | nil =>
    have h1 : r.c + (look [] key).c ≤ 1073741824 := by simpa [look, Roll.zero] using hc
    rw [List.foldlM_nil, if_pos h1]
    show some r = some (r.join Roll.zero)
    rw [join_zero]
  | cons e l ih =>
    have hg := hl.cons
    have hf := look_fine hg.2.fines key
    have hp := hf.pos
    have e1 : look (e :: l) key = e.is.join (look l key) := by show (if e.key = key then _ else _) = _; rw [if_pos (hk e (by simp))]
    rw [List.foldlM_cons, e1]
    by_cases h1 : r.c + e.is.c ≤ 1073741824
    · rw [if_pos h1]
      show List.foldlM _ (r.join e.is) l = _
      rw [ih (fun x hx => hk x (by simp [hx])) hg.2 (join_fine hr (.inr hg.1)) (by rw [join_c]; exact h1), join_c, join_c, join_assoc hr (.inr hg.1) hf, Int.add_assoc]
    · rw [if_neg h1, join_c, if_neg (by omega)]; rfl
/-- What a tree that may be knows at a key: and the error. -/
def getA (t : Tr) (key : Int) : Roll × Int := if (look t.all key).c ≤ 1073741824 then (look t.all key, 0) else (Roll.zero, 1)
def getS (t : Tr) (key : Int) : Roll × Int := match rollsC Roll.zero (pathL t key 12 t.root) with | some r => (r, 0) | none => (Roll.zero, 1)
def getR (t : Tr) (key : Int) : Roll × Int := match allR t key (key + 1) with | none => (Roll.zero, 1) | some [] => (Roll.zero, 0) | some (e :: _) => (e.is, 0)
theorem getS_eq {t : Tr} (hv : ValidT t) {key : Int} (h0 : 0 ≤ key) (h1 : key < 1099511627776) : getS t key = getA t key := by
  have hc := valid_checked hv
  obtain ⟨l, h, e, hn, hl⟩ := hv
  have hp := valid_perm e hn hl
  have hg : Goods (l.flatMap t.of) := fun x hx => hc.goods x (hp.mem_iff.1 hx)
  unfold getS getA
  rw [pathL_eq 12 _ _ _ _ _ e h0 h1, rollsC_eq (key := key) (fun x hx => by simpa using (List.mem_filter.1 hx).2) (fun x hx => hg x (List.mem_filter.1 hx).1) fine_zero (by decide), look_key, look_perm hp hg.fines, zero_join (look_fine hc.goods.fines _)]
  have : Roll.zero.c = 0 := rfl
  rw [this, Int.zero_add]
  by_cases hs : (look t.all key).c ≤ 1073741824
  · rw [if_pos hs, if_pos hs]
  · rw [if_neg hs, if_neg hs]
theorem inRange_key (key : Int) : inRange key (key + 1) = fun e => decide (e.key = key) := by
  funext e
  simp only [inRange]
  by_cases h : e.key = key
  · simp [h]; omega
  · have : ¬ (key ≤ e.key ∧ e.key < key + 1) := by omega
    simp only [h, decide_false]
    rw [← Bool.decide_and, decide_eq_false this]
theorem rising_one {l : List Ent} {key : Int} (hr : Rising l) (hk : ∀ e ∈ l, e.key = key) : l = [] ∨ ∃ e, l = [e] := by
  match l with
  | [] => exact .inl rfl
  | [e] => exact .inr ⟨e, rfl⟩
  | e :: f :: l =>
    have := (List.pairwise_cons.1 hr).1 f (by simp)
    have := hk e (by simp); have := hk f (by simp)
    omega
theorem getR_eq {t : Tr} (hv : ValidT t) (key : Int) : getR t key = getA t key := by
  have hc := valid_checked hv
  unfold getR getA allR
  rw [inRange_key]
  obtain ⟨m, hm⟩ : ∃ m, m = t.all.filter (fun e => decide (e.key = key)) := ⟨_, rfl⟩
  have hcm : Checked m := by rw [hm]; exact checked_filter hc
  have hkm : ∀ e ∈ m, e.key = key := fun e he => by rw [hm] at he; simpa using (List.mem_filter.1 he).2
  have hlm : look m key = look t.all key := by rw [hm, look_key]
  have hbk : ∀ e ∈ bag m, e.key = key := fun e he => by
    by_cases h : e.key = key
    · exact h
    · have h1 := look_rising (bag_rising hcm.goods) he
      rw [look_bag hcm.goods, look_none (fun y hy hk => h (by rw [← hk]; exact hkm y hy))] at h1
      have := (bag_goods hcm.goods e he).1
      rw [← h1] at this; exact absurd this (by decide)
  rw [← hm, bagC_eq hcm, ← hlm]
  by_cases hs : Small m
  · rw [if_pos hs, if_pos (hs key)]
    rcases rising_one (bag_rising hcm.goods) hbk with h | ⟨e, h⟩
    · rw [h, ← look_bag hcm.goods, h]; rfl
    · rw [h]
      have h1 := look_rising (bag_rising hcm.goods) (e := e) (by rw [h]; simp)
      rw [look_bag hcm.goods, hbk e (by rw [h]; simp)] at h1
      simp only [h1]
  · rw [if_neg hs, if_neg]
    intro h
    refine hs fun k => ?_
    by_cases hk : k = key
    · rw [hk]; exact h
    · rw [look_none (fun e he => by rw [hkm e he]; exact fun h => hk h.symm)]; decide
end Go.Proofs.Ytmpknhefkhjfpaa
