/- The program's walker: plain steps. No program in sight. -/
import Derived.Test.YtmpknhefkhjfpaaHeightP
namespace Go.Proofs.Ytmpknhefkhjfpaa

theorem nodeS_none {t : Tr} {f : Nat} {n lo hi : Int} {s : List Int × Int} (h : t.at? n = none) : nodeS t (f + 1) n lo hi s = none := by rw [nodeS, h]
theorem nodeS_seen {t : Tr} {f : Nat} {n lo hi : Int} {s : List Int × Int} {x : Nd} (h : t.at? n = some x) (hs : n ∈ s.1) : nodeS t (f + 1) n lo hi s = none := by rw [nodeS, h]; simp only; rw [if_pos hs]
theorem nodeS_leaf {t : Tr} {f : Nat} {n lo hi : Int} {s : List Int × Int} {x : Nd} (h : t.at? n = some x) (hs : n ∉ s.1) (hl : x.leaf = true) (hd : s.2 = 0 ∨ s.2 = 12 - (f : Int)) (hok : LeafOk t n x lo hi) :
    nodeS t (f + 1) n lo hi s = some (n :: s.1, 12 - (f : Int)) := by
  rw [nodeS, h]; simp only; rw [if_neg hs, if_pos hl, if_pos ⟨hd, hok⟩]
theorem nodeS_noleaf {t : Tr} {f : Nat} {n lo hi : Int} {s : List Int × Int} {x : Nd} (h : t.at? n = some x) (hl : x.leaf = true) (hok : ¬ ((s.2 = 0 ∨ s.2 = 12 - (f : Int)) ∧ LeafOk t n x lo hi)) : nodeS t (f + 1) n lo hi s = none := by
  rw [nodeS, h]; simp only; rw [if_pos hl, if_neg hok]; simp
theorem nodeS_inner {t : Tr} {f : Nat} {n lo hi : Int} {s : List Int × Int} {x : Nd} (h : t.at? n = some x) (hs : n ∉ s.1) (hl : x.leaf = false) (hok : InnOk x lo hi) :
    nodeS t (f + 1) n lo hi s = kidsS (fun k a b s => nodeS t f k a b s) x lo hi x.kids 0 (n :: s.1, s.2) := by
  rw [nodeS, h]; simp only; rw [if_neg hs, if_neg (by simp [hl]), if_pos hok]
theorem nodeS_noinner {t : Tr} {f : Nat} {n lo hi : Int} {s : List Int × Int} {x : Nd} (h : t.at? n = some x) (hl : x.leaf = false) (hok : ¬ InnOk x lo hi) : nodeS t (f + 1) n lo hi s = none := by
  rw [nodeS, h]; simp [hl, hok]
theorem kidsS_step {σ : Type} {go : Int → Int → Int → σ → Option σ} {x : Nd} {lo hi : Int} {i : Nat} {s : σ} (hi' : i < x.kids.length) :
    kidsS go x lo hi (x.kids.drop i) i s = if x.from lo i < x.upto hi i ∧ lo ≤ x.from lo i ∧ x.upto hi i ≤ hi then
      match go x.kids[i] (x.from lo i) (x.upto hi i) s with
      | none => none
      | some s' => kidsS go x lo hi (x.kids.drop (i + 1)) (i + 1) s'
    else none := by
  rw [List.drop_eq_getElem_cons hi']
  rfl
theorem kidsS_end {σ : Type} {go : Int → Int → Int → σ → Option σ} {x : Nd} {lo hi : Int} {i : Nat} {s : σ} (hi' : x.kids.length ≤ i) : kidsS go x lo hi (x.kids.drop i) i s = some s := by
  rw [List.drop_eq_nil_of_le hi']; rfl
/-- The depth of leaves that the walker keeps is 0, or a depth. -/
theorem nodeS_pos {t : Tr} : ∀ (f : Nat) (n lo hi : Int) (s s' : List Int × Int), f ≤ 12 → 0 ≤ s.2 → nodeS t f n lo hi s = some s' → 0 ≤ s'.2 := by
  intro f
  induction f with
  | zero => intro n lo hi s s' _ _ h; cases h
  | succ f ih =>
    intro n lo hi s s' hf hs h
    rw [nodeS] at h
    split at h
    · cases h
    · split at h
      · cases h
      · split at h
        · split at h
          · simp only [Option.some.injEq] at h; rw [← h]; simp only; omega
          · cases h
        · split at h
          · rename_i x _ _ _ hok
            have : ∀ (ks : List Int) (i : Nat) (s s' : List Int × Int), 0 ≤ s.2 → kidsS (fun k a b s => nodeS t f k a b s) x lo hi ks i s = some s' → 0 ≤ s'.2 := by
              intro ks
              induction ks with
              | nil => intro i s s' hs h; simp only [kidsS, Option.some.injEq] at h; rw [← h]; exact hs
              | cons k ks ihk =>
                intro i s s' hs h
                unfold kidsS at h
                split at h
                · split at h
                  · cases h
                  · rename_i s1 e
                    exact ihk (i + 1) s1 s' (ih _ _ _ _ _ (by omega) hs e) h
                · cases h
            exact this _ _ _ _ (by simpa using hs) h
          · cases h
/-- Numbers of nodes, none twice. -/
def SOk (t : Tr) (S : List Int) : Prop := S.Nodup ∧ ∀ y ∈ S, 0 ≤ y ∧ y < (t.nodes.length : Int)
theorem SOk.le {t : Tr} {S : List Int} (h : SOk t S) : S.length ≤ t.nodes.length := nodup_le h.1 h.2
theorem SOk.cons {t : Tr} {S : List Int} {n : Int} {x : Nd} (h : SOk t S) (hn : n ∉ S) (hx : t.at? n = some x) : SOk t (n :: S) :=
  ⟨List.nodup_cons.2 ⟨hn, h.1⟩, fun y hy => by rcases List.mem_cons.1 hy with rfl | hy; exact at?_range hx; exact h.2 y hy⟩
theorem nodeS_ok {t : Tr} : ∀ (f : Nat) (n lo hi : Int) (s s' : List Int × Int), SOk t s.1 → nodeS t f n lo hi s = some s' → SOk t s'.1 := by
  intro f
  induction f with
  | zero => intro n lo hi s s' _ h; cases h
  | succ f ih =>
    intro n lo hi s s' hs h
    rw [nodeS] at h
    split at h
    · cases h
    · rename_i x hx
      split at h
      · cases h
      · rename_i hn
        split at h
        · split at h
          · simp only [Option.some.injEq] at h; rw [← h]; exact hs.cons hn hx
          · cases h
        · split at h
          · have : ∀ (ks : List Int) (i : Nat) (s s' : List Int × Int), SOk t s.1 → kidsS (fun k a b s => nodeS t f k a b s) x lo hi ks i s = some s' → SOk t s'.1 := by
              intro ks
              induction ks with
              | nil => intro i s s' hs h; simp only [kidsS, Option.some.injEq] at h; rw [← h]; exact hs
              | cons k ks ihk =>
                intro i s s' hs h
                unfold kidsS at h
                split at h
                · split at h
                  · cases h
                  · rename_i s1 e
                    exact ihk (i + 1) s1 s' (ih _ _ _ _ _ hs e) h
                · cases h
            exact this _ _ _ _ (hs.cons hn hx) h
          · cases h
end Go.Proofs.Ytmpknhefkhjfpaa
