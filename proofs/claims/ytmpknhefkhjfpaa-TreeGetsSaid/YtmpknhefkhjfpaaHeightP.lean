/- The document's height: plain steps. No program in sight. -/
import Derived.Test.YtmpknhefkhjfpaaRiseP
import Derived.Test.YtmpknhefkhjfpaaGet
namespace Go.Proofs.Ytmpknhefkhjfpaa

theorem heightR_zero (t : Tr) (n lo hi : Int) (S : List Int) : heightR t 0 n lo hi S = none := rfl
theorem heightR_none {t : Tr} {f : Nat} {n lo hi : Int} {S : List Int} (h : t.at? n = none) : heightR t (f + 1) n lo hi S = none := by unfold heightR; rw [h]
theorem heightR_seen {t : Tr} {f : Nat} {n lo hi : Int} {S : List Int} {x : Nd} (h : t.at? n = some x) (hs : n ∈ S ∨ ¬ lo < hi) : heightR t (f + 1) n lo hi S = none := by
  unfold heightR; rw [h]; simp only; rw [if_pos hs]
theorem heightR_leaf {t : Tr} {f : Nat} {n lo hi : Int} {S : List Int} {x : Nd} (h : t.at? n = some x) (hs : n ∉ S) (hlt : lo < hi) (hl : x.leaf = true) (hok : LeafOk t n x lo hi) :
    heightR t (f + 1) n lo hi S = some (12 - (f : Int), n :: S) := by
  unfold heightR; rw [h]; simp only; rw [if_neg (by simp [hs, hlt]), if_pos hl, if_pos hok]
theorem heightR_noleaf {t : Tr} {f : Nat} {n lo hi : Int} {S : List Int} {x : Nd} (h : t.at? n = some x) (hl : x.leaf = true) (hok : ¬ LeafOk t n x lo hi) : heightR t (f + 1) n lo hi S = none := by
  rw [heightR, h]; simp only [hl, hok, if_true, if_false, ite_self]
theorem heightR_inner {t : Tr} {f : Nat} {n lo hi : Int} {S : List Int} {x : Nd} (h : t.at? n = some x) (hs : n ∉ S) (hlt : lo < hi) (hl : x.leaf = false) (hok : InnOk x lo hi) :
    heightR t (f + 1) n lo hi S = kidsR (fun k a b s => heightR t f k a b s) x lo hi x.kids 0 (0, n :: S) := by
  rw [heightR, h]; simp only; rw [if_neg (by simp [hs, hlt]), if_neg (by simp [hl]), if_pos hok]
theorem heightR_noinner {t : Tr} {f : Nat} {n lo hi : Int} {S : List Int} {x : Nd} (h : t.at? n = some x) (hl : x.leaf = false) (hok : ¬ InnOk x lo hi) : heightR t (f + 1) n lo hi S = none := by
  rw [heightR, h]; simp [hl, hok]
theorem heightR_pos {t : Tr} {f : Nat} {n lo hi : Int} {S : List Int} {h : Int} {S' : List Int} (hf : f ≤ 12) (hv : heightR t f n lo hi S = some (h, S')) : 1 ≤ h ∧ h ≤ 12 - f + h ∧ lo < hi := by
  rw [heightR_vis f _ _ _ _ hf] at hv
  split at hv
  · cases hv
  · rename_i l hh e
    have := vis_pos e
    have := vis_lt e
    split at hv
    · simp only [Option.some.injEq, Prod.mk.injEq] at hv; omega
    · cases hv
/-- A step of the loop over the kids. -/
theorem kidsR_step {go : Int → Int → Int → List Int → Option (Int × List Int)} {x : Nd} {lo hi : Int} {i : Nat} {s : Int × List Int} (hi' : i < x.kids.length) :
    kidsR go x lo hi (x.kids.drop i) i s = if lo ≤ x.upto hi i ∧ x.upto hi i ≤ hi then
      match go x.kids[i] (x.from lo i) (x.upto hi i) s.2 with
      | none => none
      | some (h, s') => if s.1 = 0 ∨ h = s.1 then kidsR go x lo hi (x.kids.drop (i + 1)) (i + 1) (h, s') else none
    else none := by
  rw [List.drop_eq_getElem_cons hi']
  rfl
theorem kidsR_end {go : Int → Int → Int → List Int → Option (Int × List Int)} {x : Nd} {lo hi : Int} {i : Nat} {s : Int × List Int} (hi' : x.kids.length ≤ i) : kidsR go x lo hi (x.kids.drop i) i s = some s := by
  rw [List.drop_eq_nil_of_le hi']; rfl
theorem leafOk_iff {t : Tr} {n : Int} {x : Nd} {lo hi : Int} : LeafOk t n x lo hi ↔ x.keys.length + x.kids.length + x.buf.length = 0 ∧ x.ents.length ≤ 6 ∧ (x.ents.length = 0 → n = t.root) ∧ entsB x.ents lo hi = true := by
  unfold LeafOk
  rw [entsB_true, ← List.length_eq_zero_iff, ← List.length_eq_zero_iff, ← List.length_eq_zero_iff, ne_eq, ← List.length_eq_zero_iff]
  constructor
  · rintro ⟨a, b, c, d, e, f⟩
    exact ⟨by omega, d, fun h => by rcases e with e | e; exact absurd h e; exact e, f⟩
  · rintro ⟨a, b, c, d⟩
    exact ⟨by omega, by omega, by omega, b, by by_cases h : x.ents.length = 0; exact .inr (c h); exact .inl h, d⟩
theorem innOk_iff {x : Nd} {lo hi : Int} : InnOk x lo hi ↔ x.ents.length = 0 ∧ 2 ≤ x.kids.length ∧ x.kids.length ≤ 4 ∧ x.keys.length + 1 = x.kids.length ∧ x.buf.length ≤ 8 ∧ entsB x.buf lo hi = true := by
  unfold InnOk
  rw [entsB_true, ← List.length_eq_zero_iff]
end Go.Proofs.Ytmpknhefkhjfpaa
