/- A region that draws its order: operations that only read, then one that may do anything, then operations that only read, each of which waits for that one. -/
import Derived.StillTailTactics
import Derived.RegionTactic
namespace Go.Proofs.YtalnnghnipoogaaDoor
open Go

section
variable {P : Program} {ops : Array Oper} {md : Region.Mode} {w : World}

def lateB (md : Region.Mode) (ops : Array Oper) (n : Nat) : Bool :=
  (List.range ops.size).all fun t => decide (t ≤ n) || (List.range t).any fun u => decide (n ≤ u) && Region.waitsFor md ops t u

theorem late_waits {n : Nat} {listed : Array Bool} (hs : Region.sinkB md ops n = true) (hl : lateB md ops n = true) (inv : HeadInv md ops n listed) :
    ∀ (d i : Nat), n - i = d → i < n → listed.getD i true = false → ∀ t, n ≤ t → t ∉ Region.ready md ops listed := by
  intro d
  induction d using Nat.strongRecOn with
  | _ d ih =>
    intro i hd hi hun t ht hr
    obtain ⟨_, ot, hot, hall⟩ := mem_ready.1 hr
    have htlt : t < ops.size := (Array.getElem?_eq_some_iff.1 hot).1
    rcases Nat.lt_or_ge n t with htn | htn
    · have h1 := List.all_eq_true.1 hl t (List.mem_range.2 htlt)
      rcases Bool.or_eq_true_iff.1 h1 with h1 | h1
      · have := of_decide_eq_true h1; omega
      · obtain ⟨u, hu, h2⟩ := List.any_eq_true.1 h1
        obtain ⟨h3, h4⟩ := Bool.and_eq_true_iff.1 h2
        have hut := List.mem_range.1 hu
        have hnu := of_decide_eq_true h3
        obtain ⟨o', ho', e, he, hb, hon⟩ := Region.waitsFor_spec h4
        obtain rfl : o' = ot := Option.some.inj (ho'.symm.trans hot)
        have h5 := hall e he hb
        rw [hon, getD_both (inv.tail u hnu (by omega))] at h5
        cases h5
    · obtain rfl : t = n := by omega
      obtain ⟨j, hj, h2⟩ := List.any_eq_true.1 (List.all_eq_true.1 hs i (List.mem_range.2 hi))
      obtain ⟨h3, h4⟩ := Bool.and_eq_true_iff.1 h2
      have hij := of_decide_eq_true h3
      have hjr := List.mem_range.1 hj
      obtain ⟨oj, hoj, e, he, hb, hon⟩ := Region.waitsFor_spec h4
      rcases Nat.lt_or_ge j t with hjt | hjt
      · cases hlj : listed.getD j false with
        | true =>
          have h5 := inv.closed j oj hoj hlj e he hb
          rw [hon, getD_both hun] at h5
          cases h5
        | false => exact ih (t - j) (by omega) j rfl hjt (getD_in (by rw [inv.size]; omega) hlj) t (Nat.le_refl _) hr
      · obtain rfl : j = t := by omega
        obtain rfl : oj = ot := Option.some.inj (hoj.symm.trans hot)
        have h5 := hall e he hb
        rw [hon, getD_both hun] at h5
        cases h5

theorem head_first {n i : Nat} {oi : Oper} {v : Value} {L : Array Bool → Act → Prop} (hi : ops[i]? = some oi) (hsel : ∀ (j : Nat) (o : Oper) cs b, ops[j]? = some o → o.op ≠ .select cs b)
    (hw : ∀ listed, HeadInv md ops n listed → ∀ i, i < n → listed.getD i true = false → ∀ t, n ≤ t → t ∉ Region.ready md ops listed) (hin : i < n)
    (hdone : ∀ listed a, L listed a → ∀ j ∈ Region.ready md ops listed, n ≤ j) (f : Nat) :
    ∀ (listed : Array Bool) (a : Act), HeadInv md ops n listed →
      (∀ j oj, ops[j]? = some oj → j ≠ i → listed.getD j true = false → (∀ e ∈ oj.after, Region.binds md e = true → e.on ≠ i) → oi.apart ops oj = true) →
      i ∈ Region.ready md ops listed → YieldsAt P ops w oi v a →
      wpAnyL P md ops w n L f (listed.setIfInBounds i true) (a.put oi.dst v) → wpAnyL P md ops w n L (f + 1) listed a := by
  induction f with
  | zero =>
    intro listed a inv _ hr hy H
    refine ⟨List.ne_nil_of_mem hr, fun j hj => ?_⟩
    have hjn : j < n := Nat.lt_of_not_le fun h => hw listed inv i hin (mem_ready.1 hr).1 j h hj
    refine ⟨hjn, ?_⟩
    by_cases hji : j = i
    · subst hji; exact hy.stOp hi H
    · exact absurd (hdone _ _ H j (ready_mono hj hji)) (by omega)
  | succ f ih =>
    intro listed a inv hfree hr hy H
    refine ⟨List.ne_nil_of_mem hr, fun j hj => ?_⟩
    have hjn : j < n := Nat.lt_of_not_le fun h => hw listed inv i hin (mem_ready.1 hr).1 j h hj
    refine ⟨hjn, ?_⟩
    by_cases hji : j = i
    · subst hji; exact hy.stOp hi H
    · obtain ⟨hjun, oj, hoj, hall⟩ := mem_ready.1 hj
      have hnot : ∀ e ∈ oj.after, Region.binds md e = true → e.on ≠ i := fun e he hb heq => by
        have h1 := hall e he hb
        rw [heq, getD_both (mem_ready.1 hr).1] at h1
        cases h1
      have hun : ∀ k, (listed.setIfInBounds j true).getD k true = false → listed.getD k true = false := fun k hk => by
        by_cases hjk : j = k
        · subst hjk; exact hjun
        · rwa [getD_set_ne true hjk] at hk
      have h2 := stOp_put hoj (hfree j oj hoj hji hjun hnot) (fun cs b => hsel i oi cs b hi) (fun cs b => hsel j oj cs b hoj) hy (H.2 j (ready_mono hj hji)).2
      refine stOp_mono (fun a' h3 => ih (listed.setIfInBounds j true) a' (inv.set hj hjn) (fun k ok hk hki hku hno => hfree k ok hk hki (hun k hku) hno) (ready_mono hr (Ne.symm hji)) h3.1 ?_) h2
      rw [Array.setIfInBounds_comm _ _ hji]
      exact h3.2

def pivotFrom (md : Region.Mode) (ops : Array Oper) (g : Nat) : Nat → Nat → Array Bool → Bool
  | 0, k, listed => decide (Region.ready md ops listed = [k]) && Region.lexFrom md ops g (k + 1) (listed.setIfInBounds k true)
  | f + 1, k, listed => (Region.ready md ops listed).contains k && Region.free md ops listed k && pivotFrom md ops g f (k + 1) (listed.setIfInBounds k true)
def pivotB (md : Region.Mode) (ops : Array Oper) (n : Nat) : Bool :=
  Region.noSelect ops && decide (n < ops.size) && Region.sinkB md ops n && lateB md ops n && pivotFrom md ops (ops.size - n - 1) n 0 (Array.replicate ops.size false)

theorem head_lex {n g : Nat} {Lq : Act → Prop} (hsel : Region.noSelect ops = true) (hw : ∀ listed, HeadInv md ops n listed → ∀ i, i < n → listed.getD i true = false → ∀ t, n ≤ t → t ∉ Region.ready md ops listed) :
    ∀ (l : List Oper) (k : Nat) (listed : Array Bool) (a : Act), (∀ j, j < l.length → l[j]? = ops[k + j]?) → k + l.length = n → HeadInv md ops n listed →
    pivotFrom md ops g l.length k listed = true → wpStill P ops w Lq l a →
    wpAnyL P md ops w n (fun listed' a' => (Region.ready md ops listed' = [n] ∧ Region.lexFrom md ops g (n + 1) (listed'.setIfInBounds n true) = true) ∧ Lq a') l.length listed a
  | [], k, listed, a, _, hk, _, hB, h => by
    obtain rfl : k = n := by simpa using hk
    obtain ⟨h1, h2⟩ := Bool.and_eq_true_iff.1 hB
    exact ⟨⟨of_decide_eq_true h1, h2⟩, h⟩
  | o :: l, k, listed, a, hl, hk, inv, hB, h => by
    have h0 : ops[k]? = some o := by simpa using (hl 0 (by simp)).symm
    obtain ⟨hB1, hB'⟩ := Bool.and_eq_true_iff.1 hB
    obtain ⟨hr, hf⟩ := Bool.and_eq_true_iff.1 hB1
    have hkn : k < n := by rw [List.length_cons] at hk; omega
    have hr' : k ∈ Region.ready md ops listed := by simpa using hr
    have hst : stOp P ops w k (wpStill P ops w Lq l) a := by unfold stOp; simp only [h0]; exact h
    obtain ⟨v, hy, hK⟩ := yieldsAt_of_stOp h0 hst
    exact head_first h0 (Region.noSelect_spec hsel) hw hkn (fun listed' a' hL j hj => by rw [hL.1.1] at hj; exact Nat.le_of_eq (List.mem_singleton.1 hj).symm) l.length listed a inv (Region.free_spec h0 hf) hr' hy
      (head_lex hsel hw l (k + 1) _ _ (fun j hj => by have := hl (j + 1) (by simp; omega); simpa [Nat.add_assoc, Nat.add_comm 1 j] using this) (by rw [List.length_cons] at hk; omega) (inv.set hr' hkn) hB' hK)

theorem wp_region_pivot {id : Nat} {Q : Exit → Act → World → Prop} {a : Act} {l : List Oper} (n : Nat) (o : Oper) (ho : l[n]? = some o) (hm : P.follows .mixedOrders = true) (hB : pivotB .any l.toArray n = true)
    (h : wpStill P l.toArray w.drew (fun a' => ∀ K : Act → World → Prop, (∀ a1 w1, wpStill P l.toArray w1 (fun a2 => Q .normal a2 w1) (l.drop (n + 1)) a1 → K a1 w1) → if Region.wanted o (yielded l.toArray a'.tmps) = true then Oper.wp P o a' w.drew K Q else K (a'.put o.dst undef) w.drew) (l.take n) a) : (Code.region id l.toArray true).wp P Q a w := by
  obtain ⟨hB1, hlex⟩ := Bool.and_eq_true_iff.1 hB
  obtain ⟨hB2, hlate⟩ := Bool.and_eq_true_iff.1 hB1
  obtain ⟨hB3, hs⟩ := Bool.and_eq_true_iff.1 hB2
  obtain ⟨hsel, hn⟩ := Bool.and_eq_true_iff.1 hB3
  have hn' : n < l.length := by simpa using of_decide_eq_true hn
  have htl : (l.take n).length = n := by simp; omega
  have inv0 : HeadInv .any l.toArray n (Array.replicate l.toArray.size false) :=
    ⟨by simp, fun j oj _ hl => (by rw [getD_replicate_false] at hl; cases hl), fun t _ ht => getD_in (by simpa using ht) (getD_replicate_false _ _)⟩
  have H := head_lex (md := .any) (g := l.toArray.size - n - 1) hsel (fun listed inv i hi hun => late_waits hs hlate inv _ i rfl hi hun) (l.take n) 0 _ a (fun j hj => by
    have hj' : j < n := by rw [htl] at hj; exact hj
    simp [hj']) (by simpa using htl) inv0 (by rw [htl]; exact hlex) h
  refine wp_region_any hm ?_
  have := wpAny_of_head (Q' := Q) (g := (l.toArray.size - n - 1) + 1) (fun listed a' hL => by
    obtain ⟨⟨hr, hx⟩, hq⟩ := hL
    refine ⟨fun h0 => (by rw [hr] at h0; cases h0), fun i hi => ?_⟩
    rw [hr] at hi
    obtain rfl : i = n := List.mem_singleton.1 hi
    have hdl : (l.drop (i + 1)).length = l.toArray.size - i - 1 := by simp; omega
    refine wpOp_step (by simpa using ho) fun K' hK' => hq K' fun a1 w1 h1 => hK' a1 w1 (wpAny_of_still (Q := fun a2 => Q .normal a2 w1) (fun _ h => h) _ _ _ ?_)
    have := wpAnyS_lex (md := .any) hsel (l.drop (i + 1)) (i + 1) (listed.setIfInBounds i true) a1 (fun j => by simp [List.getElem?_drop]) (by rw [hdl]; exact hx) h1
    rwa [hdl] at this) _ _ _ H
  rw [htl, show n + (l.toArray.size - n - 1 + 1) = l.toArray.size by simp; omega] at this
  exact this
end
end Go.Proofs.YtalnnghnipoogaaDoor
