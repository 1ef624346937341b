/- The way down for a key: plain steps. No program in sight. -/
import Derived.Test.YtmpknhefkhjfpaaSearchP
namespace Go.Proofs.Ytmpknhefkhjfpaa

theorem hasE_true {L : List Ent} {key : Int} (hs : Rising L) (h : hasE L key = true) : ∃ (i : Nat) (hi : i < L.length), posE L key = i ∧ L[i].key = key ∧ L.filter (fun e => decide (e.key = key)) = [L[i]] := by
  unfold hasE at h
  obtain ⟨e, he, hk⟩ := List.any_eq_true.1 h
  have hk := of_decide_eq_true hk
  obtain ⟨i, hi, rfl⟩ := List.getElem_of_mem he
  have hp := List.pairwise_iff_getElem.1 hs
  have h1 : ∀ t (ht : t < L.length), t < i → L[t].key < key := fun t ht hti => by rw [← hk]; exact hp t i ht hi hti
  have h2 : ∀ t (ht : t < L.length), i < t → key < L[t].key := fun t ht hti => by rw [← hk]; exact hp i t hi ht hti
  refine ⟨i, hi, posE_eq (by omega) h1 (fun t ht hti => ?_), hk, ?_⟩
  · by_cases hit : i = t
    · subst hit; omega
    · have := h2 t ht (by omega); omega
  · conv => lhs; rw [← List.take_append_drop i L, List.drop_eq_getElem_cons hi]
    rw [List.filter_append, List.filter_cons_of_pos (by simpa using hk), filter_key (fun e he => ?_), filter_key (fun e he => ?_), List.nil_append]
    · obtain ⟨t, ht, rfl⟩ := List.getElem_of_mem he
      rw [List.length_drop] at ht
      rw [List.getElem_drop]
      have := h2 (i + 1 + t) (by omega) (by omega); omega
    · obtain ⟨t, ht, rfl⟩ := List.getElem_of_mem he
      rw [List.length_take] at ht
      rw [List.getElem_take]
      have := h1 t (by omega) (by omega); omega
theorem hasE_false {L : List Ent} {key : Int} (h : hasE L key = false) : L.filter (fun e => decide (e.key = key)) = [] := by
  unfold hasE at h
  rw [List.filter_eq_nil_iff]
  intro e he
  have := List.any_eq_false.1 h e he
  simpa using this

/-- What of a node lies at its keys: entries, or what waits. -/
def Nd.own (x : Nd) : List Ent := if x.leaf = true then x.ents else x.buf
def GetRel (t : Tr) (key : Int) (r : Roll) (path : List Ent) : Prop := rollCheck r = 0 ∧ getS t key = match rollsC r path with | some r => (r, 0) | none => (Roll.zero, 1)
/-- A node on the way down: its own entries rise and may be; what is known hangs on them and on what lies below. -/
theorem get_node {t : Tr} {key : Int} (hf : treeFault t = 0) {f : Nat} {n a b : Int} {l : List Int} {h : Nat} {x : Nd} (hv : vis t (f + 1) n a b = some (l, h)) (hx : t.at? n = some x) (ha : a ≤ key) (hb : key < b) :
    Rising x.own ∧ Checked x.own ∧ (∀ e ∈ x.own, 0 ≤ e.key ∧ e.key < 1099511627776) ∧
    pathL t key (f + 1) n = x.own.filter (fun e => decide (e.key = key)) ++ (if x.leaf = true then [] else pathL t key f (x.kids.getD (kidIx x.keys key) 0)) ∧
    (x.leaf = false → x.keys.Pairwise (· < ·) ∧ kidIx x.keys key < x.kids.length ∧ ∃ f' a' b' l' h', f = f' + 1 ∧ vis t (f' + 1) (x.kids.getD (kidIx x.keys key) 0) a' b' = some (l', h') ∧ a' ≤ key ∧ key < b') := by
  obtain ⟨hn, hvt⟩ := treeFault_ok hf
  have hxm : x ∈ t.nodes := by
    unfold Tr.at? at hx
    split at hx
    · exact List.mem_of_getElem? hx
    · cases hx
  have hrange : ∀ e ∈ x.own, 0 ≤ e.key ∧ e.key < 1099511627776 := fun e he => valid_range hvt e (by
    unfold Tr.all
    refine List.mem_flatMap.2 ⟨x, hxm, ?_⟩
    unfold Nd.own at he; split at he <;> simp [he])
  have hpath : pathL t key (f + 1) n = x.own.filter (fun e => decide (e.key = key)) ++ (if x.leaf = true then [] else pathL t key f (x.kids.getD (kidIx x.keys key) 0)) := by
    conv => lhs; unfold pathL
    rw [hx]
    simp only [Nd.own]
    cases hl : x.leaf <;> simp
  obtain ⟨_, ⟨hl, hok, _⟩ | ⟨hl, hok, _⟩⟩ := vis_inner hv hx
  · have ho : x.own = x.ents := by simp [Nd.own, hl]
    exact ⟨by rw [ho]; exact hok.2.2.2.2.2.2.2, by rw [ho]; exact hok.2.2.2.2.2.1, hrange, hpath, fun h => by rw [hl] at h; cases h⟩
  · have ho : x.own = x.buf := by simp [Nd.own, hl]
    refine ⟨by rw [ho]; exact hok.2.2.2.2.2.2.2, by rw [ho]; exact hok.2.2.2.2.2.1, hrange, hpath, fun _ => ⟨(vis_keys hv hx hl).1, ?_⟩⟩
    obtain ⟨h1, a', b', l', h', h2, h3, h4, _⟩ := vis_kid hv hx hl ha hb
    refine ⟨h1, ?_⟩
    cases f with
    | zero => cases h2
    | succ f' => exact ⟨f', a', b', l', h', rfl, h2, h3, h4⟩
theorem getRel_skip {t : Tr} {key : Int} {r : Roll} {L path : List Ent} (hh : hasE L key = false) (h : GetRel t key r (L.filter (fun e => decide (e.key = key)) ++ path)) : GetRel t key r path := by
  rw [hasE_false hh, List.nil_append] at h; exact h
theorem getRel_take {t : Tr} {key : Int} {r : Roll} {L path : List Ent} {i : Nat} {hi : i < L.length} (hc : rollCheck L[i].is = 0) (hfl : L.filter (fun e => decide (e.key = key)) = [L[i]]) (h : GetRel t key r (L.filter (fun e => decide (e.key = key)) ++ path)) :
    (r.c + L[i].is.c ≤ 1073741824 → rollMerge r L[i].is = (r.join L[i].is, 0) ∧ GetRel t key (r.join L[i].is) path) ∧ (¬ r.c + L[i].is.c ≤ 1073741824 → rollMerge r L[i].is = (Roll.zero, 1) ∧ getS t key = (Roll.zero, 1)) := by
  obtain ⟨h1, h2⟩ := h
  rw [hfl] at h2
  have e : rollsC r ([L[i]] ++ path) = if r.c + L[i].is.c ≤ 1073741824 then rollsC (r.join L[i].is) path else none := by
    unfold rollsC
    rw [List.singleton_append, List.foldlM_cons]
    split <;> rfl
  rw [e] at h2
  refine ⟨fun hle => ?_, fun hle => ?_⟩
  · obtain ⟨m1, m2⟩ := merge_ok h1 hc hle
    rw [if_pos hle] at h2
    exact ⟨m1, m2, h2⟩
  · rw [if_neg hle] at h2
    exact ⟨(merge_fine h1 hc).trans (if_neg hle), h2⟩
theorem getRel_end {t : Tr} {key : Int} {r : Roll} (h : GetRel t key r []) : getS t key = (r, 0) := h.2
theorem getRel_start {t : Tr} {key : Int} : GetRel t key Roll.zero (pathL t key 12 t.root) := ⟨by decide, rfl⟩
end Go.Proofs.Ytmpknhefkhjfpaa
