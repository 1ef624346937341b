/- Which trees may be: what the program's check and the document's compute, and that they are one. No program in sight. -/
import Derived.Test.YtmpknhefkhjfpaaBag
namespace Go.Proofs.Ytmpknhefkhjfpaa

def EntsOk (l : List Ent) (lo hi : Int) : Prop := Checked l ∧ (∀ e ∈ l, lo ≤ e.key ∧ e.key < hi) ∧ Rising l
def Tr.at? (t : Tr) (n : Int) : Option Nd := if 0 ≤ n then t.nodes[n.toNat]? else none
def LeafOk (t : Tr) (n : Int) (x : Nd) (lo hi : Int) : Prop := x.keys = [] ∧ x.kids = [] ∧ x.buf = [] ∧ x.ents.length ≤ 6 ∧ (x.ents ≠ [] ∨ n = t.root) ∧ EntsOk x.ents lo hi
def InnOk (x : Nd) (lo hi : Int) : Prop := x.ents = [] ∧ 2 ≤ x.kids.length ∧ x.kids.length ≤ 4 ∧ x.keys.length + 1 = x.kids.length ∧ x.buf.length ≤ 8 ∧ EntsOk x.buf lo hi
/-- Where the keys of a node's kid begin, and end. -/
def Nd.from (x : Nd) (lo : Int) (i : Nat) : Int := if i = 0 then lo else x.keys.getD (i - 1) 0
def Nd.upto (x : Nd) (hi : Int) (i : Nat) : Int := if i < x.keys.length then x.keys.getD i 0 else hi

open Classical in
def visKids (go : Int → Int → Int → Option (List Int × Nat)) (x : Nd) (lo hi : Int) : List Int → Nat → Option (List Int × Nat)
  | [], _ => some ([], 0)
  | k :: ks, i =>
    if x.from lo i < x.upto hi i ∧ lo ≤ x.from lo i ∧ x.upto hi i ≤ hi then
      match go k (x.from lo i) (x.upto hi i), visKids go x lo hi ks (i + 1) with
      | some (l, h), some (l', h') => if h' = 0 ∨ h' = h then some (l ++ l', h) else none
      | _, _ => none
    else none
open Classical in
/-- The nodes below one, in order, and how high it stands; none: it may not be. -/
noncomputable def vis (t : Tr) : Nat → Int → Int → Int → Option (List Int × Nat)
  | 0, _, _, _ => none
  | f + 1, n, lo, hi =>
    match t.at? n with
    | none => none
    | some x =>
      if ¬ lo < hi then none
      else if x.leaf = true then (if LeafOk t n x lo hi then some ([n], 1) else none)
      else if InnOk x lo hi then (visKids (fun k a b => vis t f k a b) x lo hi x.kids 0).map fun p => (n :: p.1, p.2 + 1)
      else none

open Classical in
def kidsS {σ : Type} (go : Int → Int → Int → σ → Option σ) (x : Nd) (lo hi : Int) : List Int → Nat → σ → Option σ
  | [], _, s => some s
  | k :: ks, i, s =>
    if x.from lo i < x.upto hi i ∧ lo ≤ x.from lo i ∧ x.upto hi i ≤ hi then
      match go k (x.from lo i) (x.upto hi i) s with
      | none => none
      | some s' => kidsS go x lo hi ks (i + 1) s'
    else none
open Classical in
/-- The program's walker: which nodes were seen, and how deep leaves are. -/
noncomputable def nodeS (t : Tr) : Nat → Int → Int → Int → List Int × Int → Option (List Int × Int)
  | 0, _, _, _, _ => none
  | f + 1, n, lo, hi, s =>
    match t.at? n with
    | none => none
    | some x =>
      if n ∈ s.1 then none
      else if x.leaf = true then (if (s.2 = 0 ∨ s.2 = 12 - (f : Int)) ∧ LeafOk t n x lo hi then some (n :: s.1, 12 - (f : Int)) else none)
      else if InnOk x lo hi then kidsS (fun k a b s => nodeS t f k a b s) x lo hi x.kids 0 (n :: s.1, s.2)
      else none
open Classical in
def kidsR (go : Int → Int → Int → List Int → Option (Int × List Int)) (x : Nd) (lo hi : Int) : List Int → Nat → Int × List Int → Option (Int × List Int)
  | [], _, s => some s
  | k :: ks, i, s =>
    if lo ≤ x.upto hi i ∧ x.upto hi i ≤ hi then
      match go k (x.from lo i) (x.upto hi i) s.2 with
      | none => none
      | some (h, s') => if s.1 = 0 ∨ h = s.1 then kidsR go x lo hi ks (i + 1) (h, s') else none
    else none
open Classical in
/-- The document's height of a node: how deep its leaves are, and which nodes were seen. -/
noncomputable def heightR (t : Tr) : Nat → Int → Int → Int → List Int → Option (Int × List Int)
  | 0, _, _, _, _ => none
  | f + 1, n, lo, hi, s =>
    match t.at? n with
    | none => none
    | some x =>
      if n ∈ s ∨ ¬ lo < hi then none
      else if x.leaf = true then (if LeafOk t n x lo hi then some (12 - (f : Int), n :: s) else none)
      else if InnOk x lo hi then kidsR (fun k a b s => heightR t f k a b s) x lo hi x.kids 0 (0, n :: s)
      else none

theorem visKids_pos {go : Int → Int → Int → Option (List Int × Nat)} {x : Nd} {lo hi : Int} (hgo : ∀ k a b l h, go k a b = some (l, h) → 1 ≤ h) :
    ∀ {ks : List Int} {i : Nat} {l : List Int} {h : Nat}, visKids go x lo hi ks i = some (l, h) → ks = [] ∨ 1 ≤ h
  | [], _, _, _, _ => .inl rfl
  | k :: ks, i, l, h, hv => by
    unfold visKids at hv
    split at hv
    · split at hv
      · rename_i l1 h1 l2 h2 e1 e2
        split at hv
        · simp only [Option.some.injEq, Prod.mk.injEq] at hv
          exact .inr (hv.2 ▸ hgo _ _ _ _ _ e1)
        · cases hv
      · cases hv
    · cases hv
theorem vis_pos {t : Tr} {f : Nat} {n lo hi : Int} {l : List Int} {h : Nat} (hv : vis t f n lo hi = some (l, h)) : 1 ≤ h := by
  cases f with
  | zero => cases hv
  | succ f =>
    unfold vis at hv
    split at hv
    · cases hv
    · split at hv
      · cases hv
      · split at hv
        · split at hv
          · simp only [Option.some.injEq, Prod.mk.injEq] at hv; omega
          · cases hv
        · split at hv
          · obtain ⟨p, _, hp⟩ := Option.map_eq_some_iff.1 hv
            simp only [Prod.mk.injEq] at hp; omega
          · cases hv

theorem vis_lt {t : Tr} {f : Nat} {n lo hi : Int} {l : List Int} {h : Nat} (hv : vis t f n lo hi = some (l, h)) : lo < hi := by
  cases f with
  | zero => cases hv
  | succ f =>
    unfold vis at hv
    split at hv
    · cases hv
    · split at hv
      · cases hv
      · rename_i h; exact Classical.not_not.1 h

def apart (l S : List Int) : Prop := l.Nodup ∧ ∀ x ∈ l, x ∉ S
theorem apart_append {l l' S : List Int} : apart (l ++ l') S ↔ apart l S ∧ apart l' (l.reverse ++ S) := by
  unfold apart
  rw [List.nodup_append]
  constructor
  · rintro ⟨⟨h1, h2, h3⟩, h4⟩
    refine ⟨⟨h1, fun x hx => h4 x (by simp [hx])⟩, h2, fun x hx hh => ?_⟩
    rcases List.mem_append.1 hh with hh | hh
    · exact h3 x (by simpa using hh) x hx rfl
    · exact h4 x (by simp [hx]) hh
  · rintro ⟨⟨h1, h2⟩, h3, h4⟩
    refine ⟨⟨h1, h3, fun a ha b hb hab => ?_⟩, fun x hx => ?_⟩
    · subst hab; exact h4 a hb (by simp [ha])
    · rcases List.mem_append.1 hx with hx | hx
      · exact h2 x hx
      · exact fun hh => h4 x hx (by simp [hh])
theorem apart_cons {n : Int} {l S : List Int} : apart (n :: l) S ↔ n ∉ S ∧ apart l (n :: S) := by
  have := apart_append (l := [n]) (l' := l) (S := S)
  simp only [List.singleton_append, List.reverse_singleton] at this
  rw [this]
  simp [apart]
theorem apart_nil (S : List Int) : apart [] S := by simp [apart]

open Classical in
theorem kidsS_vis {go : Int → Int → Int → List Int × Int → Option (List Int × Int)} {gv : Int → Int → Int → Option (List Int × Nat)} {x : Nd} {lo hi d : Int} (hd : 0 ≤ d)
    (hpos : ∀ k a b l h, gv k a b = some (l, h) → 1 ≤ h)
    (hgo : ∀ k a b S D, a < b → go k a b (S, D) = match gv k a b with | none => none | some (l, h) => if apart l S ∧ (D = 0 ∨ D = d + h) then some (l.reverse ++ S, d + h) else none) :
    ∀ (ks : List Int) (i : Nat) (S : List Int) (D : Int), kidsS go x lo hi ks i (S, D) = match visKids gv x lo hi ks i with
      | none => none
      | some (l, h) => if apart l S ∧ (h = 0 ∨ D = 0 ∨ D = d + h) then some (l.reverse ++ S, if h = 0 then D else d + h) else none := by
  intro ks
  induction ks with
  | nil => intro i S D; simp [kidsS, visKids, apart_nil]
  | cons k ks ih =>
    intro i S D
    unfold kidsS visKids
    by_cases hc : x.from lo i < x.upto hi i ∧ lo ≤ x.from lo i ∧ x.upto hi i ≤ hi
    · rw [if_pos hc, if_pos hc, hgo _ _ _ _ _ hc.1]
      cases hg : gv k (x.from lo i) (x.upto hi i) with
      | none => rfl
      | some p =>
        obtain ⟨l, h⟩ := p
        have hp := hpos _ _ _ _ _ hg
        simp only
        by_cases h1 : apart l S ∧ (D = 0 ∨ D = d + h)
        · rw [if_pos h1]
          simp only
          rw [ih]
          cases hk : visKids gv x lo hi ks (i + 1) with
          | none => rfl
          | some q =>
            obtain ⟨l', h'⟩ := q
            simp only
            by_cases h2 : h' = 0 ∨ h' = h
            · rw [if_pos h2]
              simp only
              by_cases h3 : apart l' (l.reverse ++ S)
              · have c1 : apart l' (l.reverse ++ S) ∧ (h' = 0 ∨ d + (h : Int) = 0 ∨ d + (h : Int) = d + h') := ⟨h3, by omega⟩
                have c2 : apart (l ++ l') S ∧ (h = 0 ∨ D = 0 ∨ D = d + h) := ⟨apart_append.2 ⟨h1.1, h3⟩, by omega⟩
                rw [if_pos c1, if_pos c2, List.reverse_append, List.append_assoc]
                congr 2
                by_cases h0 : h' = 0
                · rw [if_pos h0, if_neg (by omega)]
                · rw [if_neg h0, if_neg (by omega)]; omega
              · rw [if_neg (fun h => h3 h.1), if_neg (fun h => h3 (apart_append.1 h.1).2)]
            · rw [if_neg h2]
              have c1 : ¬ (apart l' (l.reverse ++ S) ∧ (h' = 0 ∨ d + (h : Int) = 0 ∨ d + (h : Int) = d + h')) := fun h => by omega
              rw [if_neg c1]
        · rw [if_neg h1]
          cases hk : visKids gv x lo hi ks (i + 1) with
          | none => rfl
          | some q =>
            obtain ⟨l', h'⟩ := q
            simp only
            by_cases h2 : h' = 0 ∨ h' = h
            · rw [if_pos h2]
              have c2 : ¬ (apart (l ++ l') S ∧ (h = 0 ∨ D = 0 ∨ D = d + h)) := fun hh => h1 ⟨(apart_append.1 hh.1).1, by omega⟩
              show none = ite _ _ _
              rw [if_neg c2]
            · rw [if_neg h2]
    · rw [if_neg hc, if_neg hc]

open Classical in
theorem nodeS_vis {t : Tr} : ∀ (f : Nat) (n lo hi : Int) (S : List Int) (D : Int), f ≤ 12 → lo < hi → nodeS t f n lo hi (S, D) = match vis t f n lo hi with
      | none => none
      | some (l, h) => if apart l S ∧ (D = 0 ∨ D = 12 - f + h) then some (l.reverse ++ S, 12 - f + h) else none := by
  intro f
  induction f with
  | zero => intro n lo hi S D _ _; rfl
  | succ f ih =>
    intro n lo hi S D hf hlt
    unfold nodeS vis
    cases hx : t.at? n with
    | none => rfl
    | some x =>
      simp only
      rw [if_neg (not_not_intro hlt)]
      by_cases hl : x.leaf = true
      · rw [if_pos hl, if_pos hl]
        by_cases hok : LeafOk t n x lo hi
        · rw [if_pos hok]
          simp only [apart, List.nodup_cons, List.not_mem_nil, not_false_eq_true, List.nodup_nil, and_self, List.mem_singleton, forall_eq, true_and, hok, and_true]
          by_cases hn : n ∈ S
          · rw [if_pos hn, if_neg (fun h => h.1 hn)]
          · rw [if_neg hn]
            by_cases hD : D = 0 ∨ D = 12 - (f : Int)
            · rw [if_pos hD, if_pos ⟨hn, by omega⟩]; simp; omega
            · rw [if_neg hD, if_neg (fun h => hD (by omega))]
        · rw [if_neg hok]
          simp only [hok, and_false, if_false]
          split <;> rfl
      · rw [if_neg hl, if_neg hl]
        by_cases hok : InnOk x lo hi
        · rw [if_pos hok, if_pos hok, kidsS_vis (gv := fun k a b => vis t f k a b) (d := 12 - f) (by omega) (fun k a b l h hv => vis_pos hv) (fun k a b S D hab => ih k a b S D (by omega) hab)]
          cases hk : visKids (fun k a b => vis t f k a b) x lo hi x.kids 0 with
          | none => simp
          | some q =>
            obtain ⟨l, h⟩ := q
            have hp : 1 ≤ h := by
              rcases visKids_pos (fun k a b l h hv => vis_pos hv) hk with h0 | h0
              · have := hok.2.1; rw [h0] at this; simp at this
              · exact h0
            simp only [Option.map_some, apart_cons, List.reverse_cons, List.append_assoc, List.singleton_append]
            by_cases hn : n ∈ S
            · rw [if_pos hn, if_neg (fun h => h.1.1 hn)]
            · rw [if_neg hn]
              by_cases ha : apart l (n :: S) ∧ (D = 0 ∨ D = 12 - (f : Int) + h)
              · have c1 : apart l (n :: S) ∧ (h = 0 ∨ D = 0 ∨ D = 12 - (f : Int) + h) := ⟨ha.1, .inr ha.2⟩
                have c2 : (n ∉ S ∧ apart l (n :: S)) ∧ (D = 0 ∨ D = 12 - ((f + 1 : Nat) : Int) + ((h + 1 : Nat) : Int)) := ⟨⟨hn, ha.1⟩, by omega⟩
                rw [if_pos c1, if_pos c2, if_neg (by omega)]
                congr 2; omega
              · have c1 : ¬ (apart l (n :: S) ∧ (h = 0 ∨ D = 0 ∨ D = 12 - (f : Int) + h)) := fun h' => ha ⟨h'.1, by omega⟩
                have c2 : ¬ ((n ∉ S ∧ apart l (n :: S)) ∧ (D = 0 ∨ D = 12 - ((f + 1 : Nat) : Int) + ((h + 1 : Nat) : Int))) := fun h' => ha ⟨h'.1.2, by omega⟩
                rw [if_neg c1, if_neg c2]
        · rw [if_neg hok, if_neg hok]
          simp

open Classical in
theorem kidsR_vis {go : Int → Int → Int → List Int → Option (Int × List Int)} {gv : Int → Int → Int → Option (List Int × Nat)} {x : Nd} {lo hi d : Int} (hd : 0 ≤ d)
    (hpos : ∀ k a b l h, gv k a b = some (l, h) → 1 ≤ h ∧ a < b)
    (hgo : ∀ k a b S, go k a b S = match gv k a b with | none => none | some (l, h) => if apart l S then some (d + h, l.reverse ++ S) else none) :
    ∀ (ks : List Int) (i : Nat) (S : List Int) (D : Int), (ks = [] ∨ lo ≤ x.from lo i) → (∀ j, i ≤ j → j < i + ks.length → x.upto hi j = x.from lo (j + 1) ∨ j + 1 = i + ks.length) → kidsR go x lo hi ks i (D, S) = match visKids gv x lo hi ks i with
      | none => none
      | some (l, h) => if apart l S ∧ (h = 0 ∨ D = 0 ∨ D = d + h) then some (if h = 0 then D else d + h, l.reverse ++ S) else none := by
  intro ks
  induction ks with
  | nil => intro i S D _ _; simp [kidsR, visKids, apart_nil]
  | cons k ks ih =>
    intro i S D hi0 hnext
    have hlo : lo ≤ x.from lo i := by
      rcases hi0 with h | h
      · cases h
      · exact h
    unfold kidsR visKids
    by_cases hc : lo ≤ x.upto hi i ∧ x.upto hi i ≤ hi
    · rw [if_pos hc, hgo]
      cases hg : gv k (x.from lo i) (x.upto hi i) with
      | none => simp
      | some p =>
        obtain ⟨l, h⟩ := p
        have hp := hpos _ _ _ _ _ hg
        rw [if_pos ⟨hp.2, hlo, hc.2⟩]
        simp only
        have ih' := fun S D => ih (i + 1) S D (by
          rcases hnext i (Nat.le_refl _) (by simp) with h | h
          · right; rw [← h]; exact hc.1
          · left; simpa using h)
          (fun j hj hj' => by
            rcases hnext j (by omega) (by simp only [List.length_cons]; omega) with h | h
            · exact .inl h
            · right; simp only [List.length_cons] at h; omega)
        by_cases h1 : apart l S
        · rw [if_pos h1]
          simp only
          by_cases h2 : D = 0 ∨ d + h = D
          · rw [if_pos h2, ih']
            cases hk : visKids gv x lo hi ks (i + 1) with
            | none => rfl
            | some q =>
              obtain ⟨l', h'⟩ := q
              simp only
              by_cases h4 : h' = 0 ∨ h' = h
              · rw [if_pos h4]
                simp only
                by_cases h3 : apart l' (l.reverse ++ S)
                · have c1 : apart l' (l.reverse ++ S) ∧ (h' = 0 ∨ d + (h : Int) = 0 ∨ d + (h : Int) = d + h') := ⟨h3, by omega⟩
                  have c2 : apart (l ++ l') S ∧ (h = 0 ∨ D = 0 ∨ D = d + h) := ⟨apart_append.2 ⟨h1, h3⟩, by omega⟩
                  rw [if_pos c1, if_pos c2, List.reverse_append, List.append_assoc]
                  congr 2
                  by_cases h0 : h' = 0
                  · rw [if_pos h0, if_neg (by omega)]
                  · rw [if_neg h0, if_neg (by omega)]; omega
                · rw [if_neg (fun h => h3 h.1), if_neg (fun h => h3 (apart_append.1 h.1).2)]
              · rw [if_neg h4]
                have c1 : ¬ (apart l' (l.reverse ++ S) ∧ (h' = 0 ∨ d + (h : Int) = 0 ∨ d + (h : Int) = d + h')) := fun h => by omega
                rw [if_neg c1]
          · rw [if_neg h2]
            cases hk : visKids gv x lo hi ks (i + 1) with
            | none => rfl
            | some q =>
              obtain ⟨l', h'⟩ := q
              simp only
              by_cases h4 : h' = 0 ∨ h' = h
              · rw [if_pos h4]
                have c2 : ¬ (apart (l ++ l') S ∧ (h = 0 ∨ D = 0 ∨ D = d + h)) := fun hh => by omega
                show none = ite _ _ _
                rw [if_neg c2]
              · rw [if_neg h4]
        · rw [if_neg h1]
          cases hk : visKids gv x lo hi ks (i + 1) with
          | none => rfl
          | some q =>
            obtain ⟨l', h'⟩ := q
            simp only
            by_cases h4 : h' = 0 ∨ h' = h
            · rw [if_pos h4]
              have c2 : ¬ (apart (l ++ l') S ∧ (h = 0 ∨ D = 0 ∨ D = d + h)) := fun hh => h1 (apart_append.1 hh.1).1
              show none = ite _ _ _
              rw [if_neg c2]
            · rw [if_neg h4]
    · have : ¬ (x.from lo i < x.upto hi i ∧ lo ≤ x.from lo i ∧ x.upto hi i ≤ hi) := fun h => hc ⟨by omega, h.2.2⟩
      rw [if_neg hc, if_neg this]
open Classical in
theorem heightR_vis {t : Tr} : ∀ (f : Nat) (n lo hi : Int) (S : List Int), f ≤ 12 → heightR t f n lo hi S = match vis t f n lo hi with
      | none => none
      | some (l, h) => if apart l S then some (12 - f + h, l.reverse ++ S) else none := by
  intro f
  induction f with
  | zero => intro n lo hi S _; rfl
  | succ f ih =>
    intro n lo hi S hf
    unfold heightR vis
    cases hx : t.at? n with
    | none => rfl
    | some x =>
      simp only
      by_cases hlt : lo < hi
      · rw [if_neg (not_not_intro hlt)]
        by_cases hl : x.leaf = true
        · rw [if_pos hl, if_pos hl]
          by_cases hok : LeafOk t n x lo hi
          · rw [if_pos hok, if_pos hok]
            by_cases hn : n ∈ S
            · rw [if_pos (.inl hn)]
              have : ¬ apart [n] S := fun h => h.2 n (by simp) hn
              show none = ite _ _ _
              rw [if_neg this]
            · rw [if_neg (by simp [hn, hlt])]
              have : apart [n] S := by simp [apart, hn]
              show _ = ite _ _ _
              rw [if_pos this]
              simp; omega
          · rw [if_neg hok, if_neg hok]
            split <;> rfl
        · rw [if_neg hl, if_neg hl]
          by_cases hok : InnOk x lo hi
          · rw [if_pos hok, if_pos hok, kidsR_vis (gv := fun k a b => vis t f k a b) (d := 12 - f) (by omega) (fun k a b l h hv => ⟨vis_pos hv, vis_lt hv⟩) (fun k a b S => ih k a b S (by omega)) x.kids 0 _ _ (by simp [Nd.from]) (fun j _ hj => by
              simp only [Nat.zero_add] at hj ⊢
              by_cases h : j + 1 = x.kids.length
              · exact .inr h
              · left
                have := hok.2.2.2.1
                simp only [Nd.upto, Nd.from, Nat.add_sub_cancel]
                rw [if_pos (by omega), if_neg (by omega)])]
            cases hk : visKids (fun k a b => vis t f k a b) x lo hi x.kids 0 with
            | none => simp
            | some q =>
              obtain ⟨l, h⟩ := q
              have hp : 1 ≤ h := by
                rcases visKids_pos (fun k a b l h hv => vis_pos hv) hk with h0 | h0
                · have := hok.2.1; rw [h0] at this; simp at this
                · exact h0
              simp only [Option.map_some, apart_cons, List.reverse_cons, List.append_assoc, List.singleton_append]
              by_cases hn : n ∈ S
              · rw [if_pos (.inl hn), if_neg (fun h => h.1 hn)]
              · rw [if_neg (by simp [hn, hlt])]
                by_cases ha : apart l (n :: S)
                · have c1 : apart l (n :: S) ∧ (h = 0 ∨ True ∨ (0 : Int) = 12 - (f : Int) + h) := ⟨ha, .inr (.inl trivial)⟩
                  have c2 : n ∉ S ∧ apart l (n :: S) := ⟨hn, ha⟩
                  rw [if_pos c1, if_pos c2, if_neg (by omega)]
                  congr 2; omega
                · have c1 : ¬ (apart l (n :: S) ∧ (h = 0 ∨ True ∨ (0 : Int) = 12 - (f : Int) + h)) := fun h' => ha h'.1
                  rw [if_neg c1, if_neg (fun h' => ha h'.2)]
          · rw [if_neg hok, if_neg hok]
            simp
      · rw [if_pos (.inr hlt), if_pos hlt]

/-- A tree that may be. -/
def ValidT (t : Tr) : Prop := ∃ l h, vis t 12 t.root 0 1099511627776 = some (l, h) ∧ l.Nodup ∧ l.length = t.nodes.length
open Classical in
/-- What a check of a tree answers. -/
noncomputable def treeFault (t : Tr) : Int := if 2000 < t.nodes.length then 1 else if ValidT t then 0 else 7

theorem visKids_mem {go : Int → Int → Int → Option (List Int × Nat)} {x : Nd} {lo hi : Int} {P : Int → Prop} (hgo : ∀ k a b l h, go k a b = some (l, h) → ∀ y ∈ l, P y) :
    ∀ {ks : List Int} {i : Nat} {l : List Int} {h : Nat}, visKids go x lo hi ks i = some (l, h) → ∀ y ∈ l, P y
  | [], _, l, _, hv => by simp [visKids] at hv; intro y hy; rw [hv.1] at hy; cases hy
  | k :: ks, i, l, h, hv => by
    unfold visKids at hv
    split at hv
    · split at hv
      · rename_i l1 h1 l2 h2 e1 e2
        split at hv
        · simp only [Option.some.injEq, Prod.mk.injEq] at hv
          rw [← hv.1]
          intro y hy
          rcases List.mem_append.1 hy with hy | hy
          · exact hgo _ _ _ _ _ e1 y hy
          · exact visKids_mem hgo e2 y hy
        · cases hv
      · cases hv
    · cases hv
theorem at?_range {t : Tr} {n : Int} {x : Nd} (h : t.at? n = some x) : 0 ≤ n ∧ n < t.nodes.length := by
  unfold Tr.at? at h
  split at h
  · rename_i h0
    have := (List.getElem?_eq_some_iff.1 h).1
    omega
  · cases h
theorem vis_mem {t : Tr} : ∀ {f : Nat} {n lo hi : Int} {l : List Int} {h : Nat}, vis t f n lo hi = some (l, h) → ∀ y ∈ l, 0 ≤ y ∧ y < t.nodes.length := by
  intro f
  induction f with
  | zero => intro n lo hi l h hv; cases hv
  | succ f ih =>
    intro n lo hi l h hv
    unfold vis at hv
    split at hv
    · cases hv
    · rename_i x hx
      have hr := at?_range hx
      split at hv
      · cases hv
      · split at hv
        · split at hv
          · simp only [Option.some.injEq, Prod.mk.injEq] at hv
            rw [← hv.1]; simp; exact hr
          · cases hv
        · split at hv
          · obtain ⟨p, hp, he⟩ := Option.map_eq_some_iff.1 hv
            simp only [Prod.mk.injEq] at he
            rw [← he.1]
            intro y hy
            rcases List.mem_cons.1 hy with rfl | hy
            · exact hr
            · exact visKids_mem (P := fun y => 0 ≤ y ∧ y < t.nodes.length) (fun k a b l h hv => ih hv) hp y hy
          · cases hv

theorem nodup_length {α : Type} [DecidableEq α] : ∀ {l m : List α}, l.Nodup → (∀ y ∈ l, y ∈ m) → l.length ≤ m.length
  | [], _, _, _ => by simp
  | a :: l, m, h, hs => by
    have hn := List.nodup_cons.1 h
    have ha := hs a (by simp)
    have := nodup_length (l := l) (m := m.erase a) hn.2 (fun y hy => (List.mem_erase_of_ne (by rintro rfl; exact hn.1 hy)).2 (hs y (by simp [hy])))
    rw [List.length_erase_of_mem ha] at this
    have := List.length_pos_of_mem ha
    simp only [List.length_cons]; omega
theorem nodup_full {α : Type} [DecidableEq α] {l m : List α} (h : l.Nodup) (hs : ∀ y ∈ l, y ∈ m) (hl : m.length ≤ l.length) : ∀ y ∈ m, y ∈ l := fun y hy => by
  by_cases hyl : y ∈ l
  · exact hyl
  · have := nodup_length (l := y :: l) (m := m) (List.nodup_cons.2 ⟨hyl, h⟩) (fun z hz => by rcases List.mem_cons.1 hz with rfl | hz; exact hy; exact hs z hz)
    simp only [List.length_cons] at this; omega
def ups (n : Nat) : List Int := (List.range n).map (fun i : Nat => (i : Int))
theorem ups_mem {n : Nat} {y : Int} : y ∈ ups n ↔ 0 ≤ y ∧ y < (n : Int) := by
  unfold ups
  rw [List.mem_map]
  constructor
  · rintro ⟨a, ha, rfl⟩; have := List.mem_range.1 ha; omega
  · intro h; exact ⟨y.toNat, List.mem_range.2 (by omega), by omega⟩
theorem ups_length (n : Nat) : (ups n).length = n := by simp [ups]
theorem ups_nodup (n : Nat) : (ups n).Nodup := by
  unfold ups
  exact List.pairwise_map.2 (List.Pairwise.imp (fun hab e => hab (Int.ofNat.inj e)) List.nodup_range)
theorem nodup_le {l : List Int} {n : Nat} (h : l.Nodup) (hr : ∀ y ∈ l, 0 ≤ y ∧ y < (n : Int)) : l.length ≤ n := by
  have := nodup_length (m := ups n) h (fun y hy => ups_mem.2 (hr y hy))
  rwa [ups_length] at this
theorem nodup_all {l : List Int} {n : Nat} (h : l.Nodup) (hr : ∀ y ∈ l, 0 ≤ y ∧ y < (n : Int)) : l.length = n ↔ ∀ i : Nat, i < n → (i : Int) ∈ l := by
  constructor
  · intro hl i hi
    exact nodup_full (m := ups n) h (fun y hy => ups_mem.2 (hr y hy)) (by rw [ups_length, hl]; exact Nat.le_refl _) i (ups_mem.2 (by omega))
  · intro hall
    have h1 := nodup_le h hr
    have h2 := nodup_length (l := ups n) (m := l) (ups_nodup n) (fun y hy => by
      have := ups_mem.1 hy
      have h3 := hall y.toNat (by omega)
      have h4 : ((y.toNat : Nat) : Int) = y := by omega
      rwa [h4] at h3)
    rw [ups_length] at h2
    omega

/-- What the program's check answers, of what its walker came to. -/
noncomputable def checkS (t : Tr) : Int := if 2000 < t.nodes.length then 1 else match nodeS t 12 t.root 0 1099511627776 ([], 0) with | none => 7 | some (S, _) => if S.length = t.nodes.length then 0 else 7
open Classical in
noncomputable def faultS (t : Tr) : Int := if 2000 < t.nodes.length then 1 else match heightR t 12 t.root 0 1099511627776 [] with | none => 7 | some (_, S) => if ∀ i : Nat, i < t.nodes.length → (i : Int) ∈ S then 0 else 7
theorem apart_empty {l : List Int} : apart l [] ↔ l.Nodup := by simp [apart]
open Classical in
theorem checkS_eq (t : Tr) : checkS t = treeFault t := by
  unfold checkS treeFault
  split
  · rfl
  · rw [nodeS_vis 12 _ _ _ _ _ (by omega) (by omega)]
    cases hv : vis t 12 t.root 0 1099511627776 with
    | none =>
      rw [if_neg]
      rintro ⟨l, h, e, _⟩
      rw [hv] at e; cases e
    | some p =>
      obtain ⟨l, h⟩ := p
      simp only [apart_empty]
      by_cases hn : l.Nodup
      · rw [if_pos ⟨hn, .inl trivial⟩]
        simp only [List.append_nil, List.length_reverse]
        by_cases hl : l.length = t.nodes.length
        · rw [if_pos hl, if_pos ⟨l, h, hv, hn, hl⟩]
        · rw [if_neg hl, if_neg]
          rintro ⟨l', h', e, _, hl'⟩
          rw [hv] at e; simp only [Option.some.injEq, Prod.mk.injEq] at e
          rw [e.1] at hl; exact hl hl'
      · rw [if_neg (fun h => hn h.1), if_neg]
        rintro ⟨l', h', e, hn', _⟩
        rw [hv] at e; simp only [Option.some.injEq, Prod.mk.injEq] at e
        rw [e.1] at hn; exact hn hn'
open Classical in
theorem faultS_eq (t : Tr) : faultS t = treeFault t := by
  unfold faultS treeFault
  split
  · rfl
  · rw [heightR_vis 12 _ _ _ _ (by omega)]
    cases hv : vis t 12 t.root 0 1099511627776 with
    | none =>
      rw [if_neg]
      rintro ⟨l, h, e, _⟩
      rw [hv] at e; cases e
    | some p =>
      obtain ⟨l, h⟩ := p
      simp only [apart_empty]
      by_cases hn : l.Nodup
      · rw [if_pos hn]
        simp only [List.append_nil, List.mem_reverse]
        have hi := nodup_all (n := t.nodes.length) hn (vis_mem hv)
        by_cases hl : l.length = t.nodes.length
        · rw [if_pos (hi.1 hl), if_pos ⟨l, h, hv, hn, hl⟩]
        · rw [if_neg (fun h => hl (hi.2 h)), if_neg]
          rintro ⟨l', h', e, _, hl'⟩
          rw [hv] at e; simp only [Option.some.injEq, Prod.mk.injEq] at e
          rw [e.1] at hl; exact hl hl'
      · rw [if_neg hn, if_neg]
        rintro ⟨l', h', e, hn', _⟩
        rw [hv] at e; simp only [Option.some.injEq, Prod.mk.injEq] at e
        rw [e.1] at hn; exact hn hn'
end Go.Proofs.Ytmpknhefkhjfpaa
