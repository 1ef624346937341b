/- Texts of mine that come as one: ExpP ExpA Exp ExpK ExpG ExpAny. -/
import Derived.Test.YtalnnghnipoogaaDoorAQ
import Derived.Test.YtalnnghnipoogaaDoorMerged
import Derived.Test.YtalnnghnipoogaaDoorInsertI
import Derived.Test.YtalnnghnipoogaaDoorSP
import Derived.Test.YtalnnghnipoogaaDoorPG
import Derived.Test.YtalnnghnipoogaaDoorCP
import Derived.Test.YtalnnghnipoogaaDoorPC
import Derived.Test.YtalnnghnipoogaaDoorRO
import Derived.Test.YtalnnghnipoogaaDoorOG
import Derived.Test.YtalnnghnipoogaaDoorSO
/- What base.Expire makes of a base: plain. No program in sight. -/
namespace Go.Proofs.YtalnnghnipoogaaDoor

noncomputable def expF (b : Ba) (time : Int) : Int :=
  if baseMay b = false then 7 else if ¬ (0 ≤ time ∧ time ≤ 1048575) then 2 else if time % 3600 ≠ 0 then 4 else if time < b.floor then 8 else 0
def young (time : Int) (e : Ent) : Bool := decide (time ≤ e.key % 1048576)
noncomputable def expL (b : Ba) (time : Int) : List Ent := match bookR b with | none => [] | some l => l.filter (young time)
theorem expF_ok {b : Ba} {time : Int} (h : expF b time = 0) : baseMay b = true ∧ 0 ≤ time ∧ time ≤ 1048575 ∧ time % 3600 = 0 ∧ b.floor ≤ time := by
  unfold expF at h
  split at h
  · omega
  rename_i h1
  split at h
  · omega
  rename_i h2
  split at h
  · omega
  rename_i h3
  split at h
  · omega
  exact ⟨by simpa using h1, by omega, by omega, by simpa using h3, by omega⟩
theorem bucket_mod {s : Int} (hs : 0 < s) (e : Ent) : (bucket s e).key % 1048576 = e.key % 1048576 - e.key % 1048576 % s := by
  show (e.key - e.key % 1048576 % s) % 1048576 = _
  have h1 := Int.emod_nonneg (e.key % 1048576) (show s ≠ 0 by omega)
  have h2 := mod_le (m := e.key % 1048576) (s := s) (by omega) hs
  generalize e.key % 1048576 % s = x at h1 h2 ⊢
  omega
theorem young_bucket {time : Int} (k : Nat) (h3 : time % 3600 = 0) (_h0 : 0 ≤ time) (e : Ent) (_he : 0 ≤ e.key) : young time (bucket (szOf k) e) = young time e := by
  unfold young
  rw [decide_eq_decide, bucket_mod (szOf_pos k)]
  have hm : 0 ≤ e.key % 1048576 := by omega
  generalize e.key % 1048576 = t at hm ⊢
  unfold szOf
  by_cases hk : k = 0
  · rw [if_pos hk]; omega
  · rw [if_neg hk]
    by_cases hk1 : k = 1
    · rw [if_pos hk1]; omega
    · rw [if_neg hk1]; omega
theorem exp_knows {b : Ba} {time : Int} {l : List Ent} (h : expF b time = 0) (hl : bookR b = some l) (k : Nat) (hk : k < 3) :
    ∃ m, allT (b.tree k) = some m ∧ rolledR (l.filter (young time)) (szOf k) = some (m.filter (young time)) ∧ Rising (m.filter (young time)) ∧ Checked (m.filter (young time)) ∧ (m.filter (young time)).length ≤ (l.filter (young time)).length := by
  obtain ⟨hm, h0, h1, h3, hf⟩ := expF_ok h
  obtain ⟨l', hl', hr, hg, ht⟩ := base_knows hm
  obtain rfl : l' = l := Option.some.inj (hl'.symm.trans hl)
  obtain ⟨m, g1, g2⟩ := ht k hk
  have hc := checked_bucket (szOf k) hg.1
  unfold rolledR at g1
  have e1 := bagC_filter hc g1 fun q => decide (time ≤ q % 1048576)
  have e2 : (l'.map (bucket (szOf k))).filter (fun e => decide (time ≤ e.key % 1048576)) = (l'.filter (young time)).map (bucket (szOf k)) := by
    rw [List.filter_map]
    congr 1
    exact List.filter_congr fun e he => young_bucket k h3 h0 e (hg.2.1 e he).1
  rw [e2] at e1
  have hmf : m.filter (fun e => decide (time ≤ e.key % 1048576)) = m.filter (young time) := rfl
  rw [hmf] at e1
  obtain ⟨mr, mg⟩ := allT_good g2
  refine ⟨m, g2, e1, mr.filter _, fun e he => mg.1 e (List.mem_filter.1 he).1, ?_⟩
  have hc2 : Checked ((l'.filter (young time)).map (bucket (szOf k))) := checked_bucket _ fun e he => hg.1 e (List.mem_filter.1 he).1
  obtain ⟨-, -, -, h4, -⟩ := bagC_some hc2 e1
  rwa [List.length_map] at h4
theorem exp_is {b : Ba} {time : Int} {T : Nat → Tr} (h : expF b time = 0) (hT : ∀ k, k < 3 → ∀ m, allT (b.tree k) = some m → allT (T k) = some (m.filter (young time))) :
    baseMay ⟨b.names, T 0, T 1, T 2, time⟩ = true ∧ bookR ⟨b.names, T 0, T 1, T 2, time⟩ = some (expL b time) := by
  obtain ⟨hm, h0, h1, h3, hf⟩ := expF_ok h
  obtain ⟨l, hl, hr, hg, ht⟩ := base_knows hm
  have hB := baseMay_ok hm
  obtain ⟨hl1, hl2⟩ := bookR_some hl
  have hL : expL b time = l.filter (young time) := by unfold expL; rw [hl]
  have ha0 : allT (T 0) = some (expL b time) := by rw [hL]; exact hT 0 (by decide) l hl1
  have hbook : bookR ⟨b.names, T 0, T 1, T 2, time⟩ = some (expL b time) := by
    refine book_ok ha0 (List.all_eq_true.2 fun e he => ?_)
    rw [hL] at he
    obtain ⟨h4, h5⟩ := List.mem_filter.1 he
    have h6 := List.all_eq_true.1 hl2 e h4
    unfold bookOk at h6 ⊢
    unfold young at h5
    simp only [Bool.and_eq_true, decide_eq_true_eq] at h5 h6 ⊢
    exact ⟨⟨h6.1.1, h5⟩, h6.2⟩
  refine ⟨baseMay_yes ⟨hB.n16, h0, h1, h3, fun i => hB.names i, _, hbook, fun k hk => ?_⟩, hbook⟩
  have hk3 : k = 0 ∨ k = 1 ∨ k = 2 := by omega
  obtain ⟨m, g1, g2, -⟩ := exp_knows h hl k hk
  have g3 := hT k hk m g1
  unfold treeOk
  rw [hL, g2]
  rcases hk3 with rfl | rfl | rfl
  · show (match some _, allT (T 0) with | some a, some c => decide (a = c) | _, _ => false) = true
    rw [g3]; simp
  · show (match some _, allT (T 1) with | some a, some c => decide (a = c) | _, _ => false) = true
    rw [g3]; simp
  · show (match some _, allT (T 2) with | some a, some c => decide (a = c) | _, _ => false) = true
    rw [g3]; simp
end Go.Proofs.YtalnnghnipoogaaDoor

/- The walks of slices.IndexFunc and slices.DeleteFunc at base.Expire's inner function. -/
namespace Go.Proofs.YtalnnghnipoogaaDoor
open Go.RowKit

abbrev expC (tb : Nat) : Value := .func (.func 64) #[] #[.pointer (some ⟨tb, 0, none⟩)]
theorem young_not {time : Int} (e : Ent) : decide (e.key % 1048576 < time) = !young time e := by
  unfold young
  by_cases h : time ≤ e.key % 1048576
  · simp [h]
  · simp [h]; omega
set_option maxRecDepth 100000 in
theorem expC_any {e : Ent} {time : Int} {tb : Nat} {w : World} (hk : 0 ≤ e.key) (ht : w.cell? ⟨tb, 0, none⟩ = some (.int .i64 time)) (htb : tb < w.heap.size) :
    Calls Tryd.prog 64 #[.agg #[.int .i64 e.key, .int .i64 e.is.c, .int .i64 e.is.s, .int .i64 e.is.mi, .int .i64 e.is.ma, .int .i64 e.is.t, .int .i64 e.is.l], .pointer (some ⟨tb, 0, none⟩)] w fun r w' => r = .returned (.bool (!young time e)) ∧ Below w.heap.size w w' := by
  obtain ⟨M, hM⟩ : ∃ M, e.key % 1048576 = M := ⟨_, rfl⟩
  have m1 : e.key.tmod 1048576 = M := by rw [Int.tmod_eq_emod_of_nonneg hk]; exact hM
  have m4 : IntKind.i64.wrap M = M := IntWalk.i64_in _ (by omega)
  have HY := Lib.hid (show decide (M < time) = !young time e by rw [← hM]; exact young_not e)
  clear hM
  go_enter Tryd.func64, Tryd.ntmps64
  go_wp2
  go_ret
  exact ⟨by simp; exact HY.out, belowAuto⟩
def firstOld (time : Int) (l : List Ent) : Int := if l.all (young time) then -1 else (l.findIdx (fun c => !young time c) : Nat)
theorem firstOld_none {time : Int} {l : List Ent} (h : l.all (young time) = true) : firstOld time l = -1 := by simp [firstOld, h]
theorem firstOld_at {time : Int} {l : List Ent} {k : Nat} (hk : k < l.length) (ha : (l.take k).all (young time) = true) (hb : young time l[k] = false) : firstOld time l = k := by
  have hn : l.all (young time) = false := by
    rw [Bool.eq_false_iff]; intro h
    have := List.all_eq_true.1 h l[k] (List.getElem_mem hk)
    rw [hb] at this; cases this
  have : l.findIdx (fun c => !young time c) = k := by
    rw [List.findIdx_eq hk]
    refine ⟨by simp [hb], fun j hj => ?_⟩
    have := List.all_eq_true.1 ha l[j] (by rw [List.mem_take_iff_getElem]; exact ⟨j, by omega, rfl⟩)
    simp [this]
  simp [firstOld, hn, this]
theorem firstOld_cases (time : Int) (l : List Ent) : (firstOld time l = -1 ∧ l.filter (young time) = l) ∨ ∃ k : Nat, ∃ hk : k < l.length, firstOld time l = k ∧ (l.take k).filter (young time) = l.take k ∧ young time l[k] = false := by
  cases h : l.all (young time)
  · have h0 : ∃ x ∈ l, (!young time x) = true := by
      simp only [List.all_eq_false] at h
      obtain ⟨x, hx, h2⟩ := h
      exact ⟨x, hx, by simpa using h2⟩
    have hk : l.findIdx (fun c => !young time c) < l.length := List.findIdx_lt_length_of_exists h0
    have ha : (l.take (l.findIdx (fun c => !young time c))).all (young time) = true := by
      refine List.all_eq_true.2 fun x hx => ?_
      obtain ⟨j, hj, rfl⟩ := List.mem_take_iff_getElem.1 hx
      have := List.not_of_lt_findIdx (p := fun c => !young time c) (xs := l) (i := j) (by omega)
      simpa using this
    have hb : young time (l[l.findIdx (fun c => !young time c)]) = false := by
      have := List.findIdx_getElem (p := fun c => !young time c) (xs := l) (w := hk)
      simpa using this
    exact .inr ⟨_, hk, firstOld_at hk ha hb, List.filter_eq_self.2 fun x hx => List.all_eq_true.1 ha x hx, hb⟩
  · exact .inl ⟨firstOld_none h, List.filter_eq_self.2 fun x hx => List.all_eq_true.1 h x hx⟩
set_option maxRecDepth 100000 in
set_option maxHeartbeats 1000000 in
theorem indexOld_any {v : Value} {xs : List Ent} {time : Int} {tb : Nat} {w : World} (ha : EntsAt w v xs) (hq : ∀ e ∈ xs, 0 ≤ e.key) (ht : w.cell? ⟨tb, 0, none⟩ = some (.int .i64 time)) (htb : tb < w.heap.size) :
    Calls Tryd.prog 91 #[v, expC tb] w fun e w' => e = .returned (.int .i64 (firstOld time xs)) ∧ Below w.heap.size w w' := by
  have hxl := ha.len (by decide)
  obtain ⟨ao, ca, rfl, a1, a2, a3, a4, a5⟩ := ha
  have HK := Lib.hid fun (e : Ent) (h : 0 ≤ e.key) W (hb : Below w.heap.size w W) => expC_any (w := W) h ((hb.cell (p := ⟨tb, 0, none⟩) htb).trans ht) (Nat.lt_of_lt_of_le htb hb.size)
  clear ht htb
  go_enter Tryd.func91, Tryd.ntmps91
  go_wp2_with fail
  go_loopg [5, 8] xs.length (fun g _ i wr => ∃ k : Nat, k ≤ xs.length ∧ g = xs.length - k ∧ i = .int .i64 k ∧ Hid ((xs.take k).all (young time) = true) ∧ Below w.heap.size w wr)
  case atStart => exact ⟨0, Nat.zero_le _, rfl, rfl, Lib.hid (by simp), Below.refl _ _⟩
  case round =>
    obtain ⟨k, hk, rfl, rfl, HE, hb⟩ := hrel
    by_cases hlt : k < xs.length
    · obtain ⟨ab, aoff, rfl, abb, ac⟩ := a5 (by omega)
      obtain ⟨c0, c1, c2, c3, c4, c5, c6⟩ := ent_cells hb abb ac hlt
      have hzb := hb.size
      have habz : ab < wr.heap.size := by omega
      have hix := fun w' => idx_ents (ab := ab) (aoff := aoff) (n := xs.length) (cap := ca) (show (k : Int) = ((k : Nat) : Int) by rfl) hlt w'
      clear ac a5
      have q0 := hq _ (List.getElem_mem hlt)
      obtain ⟨c, hc⟩ : ∃ c, xs[k] = c := ⟨_, rfl⟩
      rw [hc] at c0 c1 c2 c3 c4 c5 c6 q0
      have EC := Lib.hid hc
      have HC := Lib.hid (HK.out c q0 wr hb)
      clear hc
      obtain ⟨Y, hY⟩ : ∃ Y, young time c = Y := ⟨_, rfl⟩
      have HY := Lib.hid hY
      rw [hY] at HC
      clear hY
      cases Y
      · have HF := Lib.hid (show firstOld time xs = k from firstOld_at hlt HE.out (by rw [EC.out]; exact HY.out))
        go_wp2_with (go_at_call 64; (with_reducible refine HC.out.mono ?_); rintro e w1 ⟨rfl, hb1⟩)
        go_ret
        exact ⟨ret_int HF.out.symm, Below.trans' hb hb1 hzb⟩
      · go_wp2_with (go_at_call 64; (with_reducible refine HC.out.mono ?_); rintro e w1 ⟨rfl, hb1⟩)
        go_roundg (xs.length - (k + 1))
        case measure => omega
        case rel => exact ⟨k + 1, by omega, rfl, by go_num, Lib.hid (by rw [List.take_succ_eq_append_getElem hlt, List.all_append, HE.out, EC.out]; simp [HY.out]), Below.trans' hb hb1 hzb⟩
    · have HF := Lib.hid (show firstOld time xs = -1 from firstOld_none (by have := HE.out; rwa [List.take_of_length_le (by omega)] at this))
      go_wp2
      go_ret
      exact ⟨ret_int HF.out.symm, hb⟩
theorem flat_put {x : Ent} : ∀ {es : List Ent} {i : Nat} (_ : i < es.length), (es.set i x).flatMap enEnt =
    ((((((((es.flatMap enEnt).set (i * 7) (.int .i64 x.key)).set (i * 7 + 1) (.int .i64 x.is.c)).set (i * 7 + 2) (.int .i64 x.is.s)).set (i * 7 + 3) (.int .i64 x.is.mi)).set (i * 7 + 4) (.int .i64 x.is.ma)).set (i * 7 + 5) (.int .i64 x.is.t)).set (i * 7 + 6) (.int .i64 x.is.l))
  | [], i, hi => by simp at hi
  | e :: es, 0, _ => rfl
  | e :: es, i + 1, hi => by
    have ih := flat_put (x := x) (es := es) (i := i) (by simpa using hi)
    simp only [List.set_cons_succ, List.flatMap_cons]
    have e0 : (enEnt e ++ es.flatMap enEnt).set ((i + 1) * 7) (.int .i64 x.key) = enEnt e ++ (es.flatMap enEnt).set (i * 7) (.int .i64 x.key) := flat_set1 e _ i 0 _
    rw [e0, flat_set1, flat_set1, flat_set1, flat_set1, flat_set1, flat_set1, ih]
theorem OwnEnts.place {B : Nat} {w : World} {g cap n : Nat} {es : List Ent} {i : Nat} {x : Ent} (h : OwnEnts B w (.slice (some ⟨g, 0, none⟩) n cap) es) (hn : n = es.length) (hi : i < es.length) :
    OwnEnts B (((((((w.setCell ⟨g, i * 7, none⟩ (.int .i64 x.key)).setCell ⟨g, i * 7 + 1, none⟩ (.int .i64 x.is.c)).setCell ⟨g, i * 7 + 2, none⟩ (.int .i64 x.is.s)).setCell ⟨g, i * 7 + 3, none⟩ (.int .i64 x.is.mi)).setCell ⟨g, i * 7 + 4, none⟩ (.int .i64 x.is.ma)).setCell ⟨g, i * 7 + 5, none⟩ (.int .i64 x.is.t)).setCell ⟨g, i * 7 + 6, none⟩ (.int .i64 x.is.l)) (.slice (some ⟨g, 0, none⟩) n cap) (es.set i x) := by
  subst hn
  refine ⟨?_⟩
  rw [flat_put hi, List.length_set]
  exact (World.ownsRow.stored (World.ownsRow.stored (World.ownsRow.stored (World.ownsRow.stored (World.ownsRow.stored (World.ownsRow.stored (World.ownsRow.stored h.row _ _).1 _ _).1 _ _).1 _ _).1 _ _).1 _ _).1 _ _).1
theorem zeros_ent (n : Nat) : ∀ v ∈ (Builtin.zeroCells (#[.int .i64 0, .int .i64 0, .int .i64 0, .int .i64 0, .int .i64 0, .int .i64 0, .int .i64 0] : Array Value) n).toList, v.oneCell' = true := by
  intro v hv
  simp only [Builtin.zeroCells, Array.toList_map, List.mem_map] at hv
  obtain ⟨k, -, rfl⟩ := hv
  have h7 : k % 7 < 7 := Nat.mod_lt _ (by decide)
  show ((#[.int .i64 0, .int .i64 0, .int .i64 0, .int .i64 0, .int .i64 0, .int .i64 0, .int .i64 0] : Array Value)[k % 7]!).oneCell' = true
  generalize k % 7 = m at h7
  obtain rfl | rfl | rfl | rfl | rfl | rfl | rfl : m = 0 ∨ m = 1 ∨ m = 2 ∨ m = 3 ∨ m = 4 ∨ m = 5 ∨ m = 6 := by omega
  all_goals rfl
theorem flat_takeE {es : List Ent} : ∀ (i : Nat), (es.take i).flatMap enEnt = (es.flatMap enEnt).take (i * 7) := by
  induction es with
  | nil => intro i; simp
  | cons e es ih =>
    intro i
    cases i with
    | zero => rfl
    | succ i =>
      rw [List.take_succ_cons, List.flatMap_cons, List.flatMap_cons, ih, show (i + 1) * 7 = 7 + i * 7 from by omega]
      rw [List.take_append, List.take_of_length_le (show (enEnt e).length ≤ 7 + i * 7 by rw [enEnt_length]; omega), enEnt_length, show 7 + i * 7 - 7 = i * 7 from by omega]
theorem clear_ents {B : Nat} {w : World} {g cap i c : Nat} {es : List Ent} (h : OwnEnts B w (.slice (some ⟨g, 0, none⟩) es.length cap) es) (hi : i < es.length) :
    ∃ w', (∀ ty, (Builtin.clear_ #[35] ty #[.slice (some ⟨g, i * 7, none⟩) (es.length - i) c]).run Tryd.prog w = .ok (.tuple #[]) w') ∧ OwnEnts B w' (.slice (some ⟨g, 0, none⟩) i cap) (es.take i) ∧ ∀ C W, Below C W w → C ≤ B → Below C W w' := by
  obtain ⟨hl, ⟨h1, h0⟩ | ⟨g', cap', cur, h1, hB, hg, h2, h3, h4, h5⟩⟩ := h.row
  · cases h1
  · injection h1 with e1 _ e3
    injection e1 with e1; injection e1 with e1 _
    subst e1 e3
    obtain ⟨Z, hZ⟩ : ∃ Z, (Builtin.zeroCells (#[.int .i64 0, .int .i64 0, .int .i64 0, .int .i64 0, .int .i64 0, .int .i64 0, .int .i64 0] : Array Value) (es.length - i)).toList = Z := ⟨_, rfl⟩
    have hZl : Z.length = (es.length - i) * 7 := by rw [← hZ, Array.length_toList, size_zeroCells]; rfl
    have hst := run_storeCells_at Tryd.prog g (i * 7) 89 Z 0 cur w hg (by rw [hZl]; omega) (by rw [← hZ]; exact zeros_ent _)
    obtain ⟨cs, hcs⟩ : ∃ cs, (List.take (i * 7 + 0) cur.toList ++ Z ++ List.drop (i * 7 + 0 + Z.length) cur.toList).toArray = cs := ⟨_, rfl⟩
    rw [hcs] at hst
    have hcl : cs.size = cur.size := by rw [← hcs]; simp; omega
    have hct : cs.toList.take (i * 7) = (es.take i).flatMap enEnt := by
      rw [← hcs]
      simp only [Nat.add_zero, List.append_assoc]
      rw [List.take_append_of_le_length (by simp; omega), List.take_of_length_le (by simp; omega), flat_takeE, ← h5, List.take_take, Nat.min_eq_left (by omega)]
    have hun := Tryd.underlying35
    refine ⟨w.setRow g cs, fun ty => ?_, ⟨by rw [flat_takeE, List.length_take, hl, List.length_take]; omega, .inr ⟨g, cap, cs, ?_, hB, setRow_heap w g cur cs _ _ hg, by rw [List.length_take]; omega, h3, by rw [hcl]; exact h4, ?_⟩⟩, fun C W hb hC => ⟨hb.os, hb.tape, hb.output, ?_, fun k hk => (setRow_other w g k cs (by omega)).trans (hb.block k hk)⟩⟩
    · have hzv : (zeroValue 89).run Tryd.prog w = .ok (.agg #[.int .i64 0, .int .i64 0, .int .i64 0, .int .i64 0, .int .i64 0, .int .i64 0, .int .i64 0]) w := by kernel_rfl
      obtain ⟨m, hm⟩ : ∃ m, es.length - i = m + 1 := ⟨es.length - i - 1, by omega⟩
      rw [hm] at hZ ⊢
      have hzc : (Value.agg #[.int .i64 0, .int .i64 0, .int .i64 0, .int .i64 0, .int .i64 0, .int .i64 0, .int .i64 0]).cells = #[.int .i64 0, .int .i64 0, .int .i64 0, .int .i64 0, .int .i64 0, .int .i64 0, .int .i64 0] := rfl
      simp [Builtin.clear_, hun, hzv, hzc, hZ, hst, underlying]
    · rw [List.length_take, Nat.min_eq_left (by omega)]
    · rw [List.length_take, Nat.min_eq_left (by omega)]; exact hct
    · have hs : (w.setRow g cs).heap.size = w.heap.size := by simp [World.setRow]
      rw [hs]; exact hb.size
theorem own_cells {B : Nat} {w : World} {g cap n i : Nat} {es : List Ent} (h : OwnEnts B w (.slice (some ⟨g, 0, none⟩) n cap) es) (hl : es.length ≤ 100000) (hi : i < es.length) :
    ∃ v0 v1 v2 v3 v4 v5 v6 : Value, w.cell? ⟨g, i * 7, none⟩ = some v0 ∧ w.cell? ⟨g, i * 7 + 1, none⟩ = some v1 ∧ w.cell? ⟨g, i * 7 + 2, none⟩ = some v2 ∧ w.cell? ⟨g, i * 7 + 3, none⟩ = some v3 ∧ w.cell? ⟨g, i * 7 + 4, none⟩ = some v4 ∧ w.cell? ⟨g, i * 7 + 5, none⟩ = some v5 ∧ w.cell? ⟨g, i * 7 + 6, none⟩ = some v6 ∧ ∀ o, w.frozen? ⟨g, o, none⟩ = false := by
  obtain ⟨_, _, hv, -, -, -, -, h5⟩ := h.at (by omega)
  injection hv with hv1 hv2 hv3
  obtain ⟨eb, eoff, hla, heb, hec⟩ := h5 (by omega)
  rw [← hv1] at hla
  injection hla with hla; injection hla with e1 e2
  subst e1 e2
  obtain ⟨c0, c1, c2, c3, c4, c5, c6⟩ := ent_cells (Below.refl _ _) heb hec hi
  simp only [Nat.zero_add] at c0 c1 c2 c3 c4 c5 c6
  obtain ⟨hrl, ⟨p1, -⟩ | ⟨g', cap', cur', p1, -, pg, -, p3, p4, -⟩⟩ := h.row
  · cases p1
  injection p1 with e1
  injection e1 with e1; injection e1 with e1
  subst e1
  exact ⟨_, _, _, _, _, _, _, c0, c1, c2, c3, c4, c5, c6, fun o => by simp [World.frozen?, pg]⟩
set_option maxRecDepth 100000 in
set_option maxHeartbeats 2000000 in
theorem delOld_any {B : Nat} {v : Value} {es : List Ent} {time : Int} {tb : Nat} {w : World} (h : OwnEnts B w v es) (hl : es.length ≤ 100000) (hq : ∀ e ∈ es, 0 ≤ e.key) (ht : w.cell? ⟨tb, 0, none⟩ = some (.int .i64 time)) (htb : tb < B) (hB : B ≤ w.heap.size) :
    Calls Tryd.prog 63 #[v, expC tb] w fun e w' => ∃ v', e = .returned v' ∧ Below B w w' ∧ OwnEnts B w' v' (es.filter (young time)) := by
  obtain ⟨so, sc, rfl⟩ := h.isSlice
  have HIX := Lib.hid (indexOld_any (h.at (by omega)) hq ht (by omega))
  rcases firstOld_cases time es with ⟨hf, hfl⟩ | ⟨k, hk, hf, hft, hko⟩
  · rw [hf] at HIX
    have HO := Lib.hid (And.intro h hfl)
    clear h hq ht hf hfl
    go_enter Tryd.func63, Tryd.ntmps63
    go_wp2_with (go_at_call 91; (with_reducible refine HIX.out.mono ?_); rintro e w1 ⟨rfl, hb1⟩)
    go_ret
    exact ⟨_, rfl, hb1.mono hB, by rw [HO.out.2]; exact HO.out.1.below hb1 (Nat.le_refl _)⟩
  · rw [hf] at HIX
    obtain ⟨hl0, ⟨h1, h0⟩ | ⟨g, cap, cur, h1, hBg, hg, h2, h3, h4, h5⟩⟩ := h.row
    · omega
    injection h1 with e1 _ e3
    subst e1 e3
    have hgz : g < w.heap.size := (h.lt g rfl).2
    have hnk : ¬ ((k : Int) = -1) := by omega
    have hw1 : IntKind.i64.wrap ((k : Int) + 1) = (k : Int) + 1 := IntWalk.i64_in _ (by omega)
    have HH := Lib.hid (And.intro h (And.intro hft hko))
    have HK := Lib.hid fun (e : Ent) (h : 0 ≤ e.key) W (hb : Below B w W) => expC_any (w := W) h ((hb.cell (p := ⟨tb, 0, none⟩) htb).trans ht) (by have := hb.size; omega)
    have HQ := Lib.hid hq
    clear h hq ht hf hft hko hl0 hg h3 h4 h5
    go_enter Tryd.func63, Tryd.ntmps63
    go_wp2_with (go_at_call 91; (with_reducible refine HIX.out.mono ?_); rintro e w1 ⟨rfl, hb1⟩)
    go_loopg [5, 6] (es.length - (k + 1)) (fun n a c wr => ∃ i j : Nat, i < j ∧ j ≤ es.length ∧ n = es.length - j ∧ a = .int .i64 i ∧ c = .int .i64 j ∧ Hid (Below B w wr ∧ ∃ es', es'.length = es.length ∧ OwnEnts B wr (.slice (some ⟨g, 0, none⟩) es.length sc) es' ∧ es'.take i = (es.take j).filter (young time) ∧ es'.drop j = es.drop j))
    case atStart =>
      refine ⟨k, k + 1, by omega, by omega, rfl, rfl, by go_num, Lib.hid ⟨hb1.mono hB, es, rfl, HH.out.1.below hb1 (Nat.le_refl _), ?_, rfl⟩⟩
      rw [List.take_succ_eq_append_getElem hk, List.filter_append, HH.out.2.1]
      simp [HH.out.2.2]
    case round =>
      obtain ⟨i, j, hij, hj, rfl, rfl, rfl, HR⟩ := hrel
      by_cases hlt : j < es.length
      · obtain ⟨hbr, es', hlen, ho, hta, hdr⟩ := HR.out
        have hlt' : j < es'.length := by omega
        have hej : es'[j] = es[j] := by
          have := congrArg (fun l => l[0]?) hdr
          simp only [List.getElem?_drop, Nat.add_zero] at this
          rw [List.getElem?_eq_getElem hlt', List.getElem?_eq_getElem hlt] at this
          exact Option.some.inj this
        obtain ⟨hrl, ⟨p1, -⟩ | ⟨g', cap', cur', p1, -, pg, -, p3, p4, -⟩⟩ := ho.row
        · cases p1
        injection p1 with e1 e2 e3
        injection e1 with e1; injection e1 with e1
        subst e1 e3
        clear e2
        have hgr : g < wr.heap.size := (ho.lt g rfl).2
        obtain ⟨_, _, hv, -, -, -, -, p5⟩ := ho.at (by omega)
        injection hv with hv1 hv2 hv3
        subst hv3
        clear hv2
        obtain ⟨eb, eoff, hla, heb, hec⟩ := p5 (by omega)
        rw [← hv1] at hla
        injection hla with hla; injection hla with e1 e2
        subst e1 e2
        obtain ⟨c0, c1, c2, c3, c4, c5, c6⟩ := ent_cells (Below.refl _ _) heb hec hlt'
        have q0 := HQ.out _ (List.getElem_mem hlt)
        have hfj : (es.take (j + 1)).filter (young time) = (es.take j).filter (young time) ++ if young time es[j] then [es[j]] else [] := by
          rw [List.take_succ_eq_append_getElem hlt, List.filter_append]
          by_cases hy : young time es[j] = true <;> simp [hy]
        rw [hej] at c0 c1 c2 c3 c4 c5 c6
        obtain ⟨c, hc⟩ : ∃ c, es[j] = c := ⟨_, rfl⟩
        rw [hc] at c0 c1 c2 c3 c4 c5 c6 q0 hfj
        have hcj : es'.drop j = c :: es.drop (j + 1) := by rw [hdr, List.drop_eq_getElem_cons hlt, hc]
        have hdr1 : es'.drop (j + 1) = es.drop (j + 1) := by
          have := congrArg List.tail hcj
          simpa using this
        obtain ⟨W1, hW1⟩ : ∃ W1, W1 = wr.alloc (.cells #[.int .i64 c.key, .int .i64 c.is.c, .int .i64 c.is.s, .int .i64 c.is.mi, .int .i64 c.is.ma, .int .i64 c.is.t, .int .i64 c.is.l] 89) := ⟨_, rfl⟩
        have hb2 : Below wr.heap.size wr W1 := by rw [hW1]; exact belowAuto
        have hz2 : W1.heap.size = wr.heap.size + 1 := by rw [hW1]; simp
        have k1 : W1.heap[wr.heap.size]? = some (.cells #[.int .i64 c.key, .int .i64 c.is.c, .int .i64 c.is.s, .int .i64 c.is.mi, .int .i64 c.is.ma, .int .i64 c.is.t, .int .i64 c.is.l] 89) := by rw [hW1]; exact heap_new _ _ rfl
        have hbr1 : Below B w W1 := Below.trans' hbr hb2 (by omega)
        have HX := Lib.hid fun w' (hb : Below W1.heap.size W1 w') => (by
          have b0 : w'.heap[wr.heap.size]? = _ := (hb.block _ (by omega)).trans k1
          simp [World.cell?, b0] : w'.cell? ⟨wr.heap.size, 0, none⟩ = some (.int .i64 c.key) ∧ w'.cell? ⟨wr.heap.size, 1, none⟩ = some (.int .i64 c.is.c) ∧ w'.cell? ⟨wr.heap.size, 2, none⟩ = some (.int .i64 c.is.s) ∧ w'.cell? ⟨wr.heap.size, 3, none⟩ = some (.int .i64 c.is.mi) ∧ w'.cell? ⟨wr.heap.size, 4, none⟩ = some (.int .i64 c.is.ma) ∧ w'.cell? ⟨wr.heap.size, 5, none⟩ = some (.int .i64 c.is.t) ∧ w'.cell? ⟨wr.heap.size, 6, none⟩ = some (.int .i64 c.is.l))
        have HC := Lib.hid (HK.out c q0 W1 hbr1)
        have HO := Lib.hid (ho.below hb2 (Nat.le_refl _))
        have HF := Lib.hid (And.intro hfj (And.intro hlen (And.intro hta (And.intro hcj hdr1))))
        have hix := fun w' => idx_ents (ab := g) (aoff := 0) (n := es.length) (cap := sc) (show (j : Int) = ((j : Nat) : Int) by rfl) hlt w'
        have hix2 := fun w' => idx_ents (ab := g) (aoff := 0) (n := es.length) (cap := sc) (show (i : Int) = ((i : Nat) : Int) by rfl) (show i < es.length by omega) w'
        have hwi : IntKind.i64.wrap ((i : Int) + 1) = (i : Int) + 1 := IntWalk.i64_in _ (by omega)
        have hwj : IntKind.i64.wrap ((j : Int) + 1) = (j : Int) + 1 := IntWalk.i64_in _ (by omega)
        obtain ⟨q1, q2, q3, q4, q5, q6, q7⟩ := HX.out W1 (Below.refl _ _)
        simp only [Nat.zero_add] at c0 c1 c2 c3 c4 c5 c6 hix hix2
        clear hec p5 hv1 hej hc hfj hlen hta hcj hdr hdr1 ho pg p4 hrl hlt'
        go_upto_region 8 with (fail)
        rw [← hW1]
        clear hW1 k1
        obtain ⟨Y, hY⟩ : ∃ Y, young time c = Y := ⟨_, rfl⟩
        have HY := Lib.hid hY
        rw [hY] at HC
        clear hY
        cases Y
        · go_wp2_with (go_at_call 64; (with_reducible refine HC.out.mono ?_); rintro e w3 ⟨rfl, hb3⟩)
          go_roundg (es.length - (j + 1))
          case measure => omega
          case rel =>
            obtain ⟨f1, f2, f3, f4, f5⟩ := HF.out
            exact ⟨i, j + 1, by omega, by omega, rfl, rfl, by go_num, Lib.hid ⟨Below.trans' hbr1 hb3 (by omega), es', f2, HO.out.below hb3 (Nat.le_refl _), by rw [f1, HY.out, f3]; simp, f5⟩⟩
        · go_wp2_with (go_at_call 64; (with_reducible refine HC.out.mono ?_); rintro e w3 ⟨rfl, hb3⟩; clear q1 q2 q3 q4 q5 q6 q7; obtain ⟨q1, q2, q3, q4, q5, q6, q7⟩ := HX.out w3 hb3; obtain ⟨v0, v1, v2, v3, v4, v5, v6, z0, z1, z2, z3, z4, z5, z6, zf⟩ := own_cells (HO.out.below hb3 (Nat.le_refl _)) (by rw [HF.out.2.1]; omega) (show i < es'.length by rw [HF.out.2.1]; omega))
          go_roundg (es.length - (j + 1))
          case measure => omega
          case rel =>
            obtain ⟨f1, f2, f3, f4, f5⟩ := HF.out
            have hp := (HO.out.below hb3 (Nat.le_refl _)).place (x := c) f2.symm (show i < es'.length by omega)
            refine ⟨i + 1, j + 1, by omega, by omega, rfl, by go_num, by go_num, Lib.hid ⟨?_, es'.set i c, by rw [List.length_set]; exact f2, hp, ?_, ?_⟩⟩
            · have := Below.trans' hbr1 hb3 (by omega)
              exact belowAuto
            · rw [f1, HY.out, ← f3, List.take_succ_eq_append_getElem (by rw [List.length_set]; omega), List.take_set_of_le (Nat.le_refl _)]; simp
            · rw [List.drop_set_of_lt (by omega)]; exact f5
      · obtain rfl : j = es.length := by omega
        obtain ⟨hbr, es', hlen, ho, hta, hdr⟩ := HR.out
        rw [List.take_length] at hta
        rw [← hlen] at ho
        obtain ⟨w2, g1, g2, g3⟩ := clear_ents (c := sc - i) ho (show i < es'.length by omega)
        rw [hlen] at g1
        rw [hta] at g2
        have HR2 := Lib.hid (And.intro g2 (g3 B w hbr (Nat.le_refl _)))
        clear ho hta hdr hlen g2 g3
        have hne : ¬ (sc = i) := by omega
        go_wp2_with (simp only [g1])
        go_ret
        exact ⟨_, rfl, HR2.out.2, HR2.out.1⟩
end Go.Proofs.YtalnnghnipoogaaDoor

/- The walk of base.Expire: what it begins with; where something is wrong ahead. -/
namespace Go.Proofs.YtalnnghnipoogaaDoor
open Go.RowKit

structure ExpAt (w : World) (cs : Array Value) (time : Int) (w' : World) : Prop where
  below : Below w.heap.size w w'
  size : w.heap.size + 3 ≤ w'.heap.size
  box : w'.heap[w.heap.size]? = some (.cells cs 28)
  tm : w'.heap[w.heap.size + 1]? = some (.cells #[.int .i64 time] 3)
  res : w'.heap[w.heap.size + 2]? = some (.cells zeroBC 28)
theorem ExpAt.later {w : World} {cs : Array Value} {time : Int} {w1 w2 : World} {B : Nat} (h : ExpAt w cs time w1) (hb : Below B w1 w2) (hB : w.heap.size + 3 ≤ B) : ExpAt w cs time w2 :=
  ⟨⟨hb.os.trans h.below.os, hb.tape.trans h.below.tape, hb.output.trans h.below.output, Nat.le_trans h.below.size hb.size, fun k hk => (hb.block k (by omega)).trans (h.below.block k hk)⟩, by have := hb.size; have := h.size; omega,
    (hb.block _ (by omega)).trans h.box, (hb.block _ (by omega)).trans h.tm, (hb.block _ (by omega)).trans h.res⟩
theorem ExpAt.all {w : World} {v0 v1 v2 v3 v4 v5 v6 v7 : Value} {time : Int} {w1 : World} (h : ExpAt w #[v0, v1, v2, v3, v4, v5, v6, v7] time w1) :
    w1.cell? ⟨w.heap.size, 0, none⟩ = some v0 ∧ w1.cell? ⟨w.heap.size, 1, none⟩ = some v1 ∧ w1.cell? ⟨w.heap.size, 2, none⟩ = some v2 ∧ w1.cell? ⟨w.heap.size, 3, none⟩ = some v3 ∧ w1.cell? ⟨w.heap.size, 4, none⟩ = some v4 ∧ w1.cell? ⟨w.heap.size, 5, none⟩ = some v5 ∧ w1.cell? ⟨w.heap.size, 6, none⟩ = some v6 ∧ w1.cell? ⟨w.heap.size, 7, none⟩ = some v7 ∧ w1.cell? ⟨w.heap.size + 1, 0, none⟩ = some (.int .i64 time) := by
  have h1 := h.box
  have h2 := h.tm
  simp [World.cell?, h1, h2]
theorem ExpAt.zs {w : World} {cs : Array Value} {time : Int} {w1 : World} (h : ExpAt w cs time w1) :
    w1.cell? ⟨w.heap.size + 2, 0, none⟩ = some (.slice none 0 0) ∧ w1.cell? ⟨w.heap.size + 2, 1, none⟩ = some (.slice none 0 0) ∧ w1.cell? ⟨w.heap.size + 2, 2, none⟩ = some (.int .i64 0) ∧ w1.cell? ⟨w.heap.size + 2, 3, none⟩ = some (.slice none 0 0) ∧ w1.cell? ⟨w.heap.size + 2, 4, none⟩ = some (.int .i64 0) ∧ w1.cell? ⟨w.heap.size + 2, 5, none⟩ = some (.slice none 0 0) ∧ w1.cell? ⟨w.heap.size + 2, 6, none⟩ = some (.int .i64 0) ∧ w1.cell? ⟨w.heap.size + 2, 7, none⟩ = some (.int .i64 0) ∧ ∀ o, w1.frozen? ⟨w.heap.size + 2, o, none⟩ = false := by
  have h1 := h.res
  simp [World.cell?, World.frozen?, h1]
theorem exp_rem {time : Int} (h : 0 ≤ time) (h2 : time ≤ 1048575) : time.tmod 3600 = time % 3600 ∧ IntKind.i64.wrap (time % 3600) = time % 3600 := ⟨Int.tmod_eq_emod_of_nonneg h, IntWalk.i64_in _ (by omega)⟩

set_option maxRecDepth 100000 in
set_option maxHeartbeats 4000000 in
theorem exp_may {sa : Option Addr} {sc : Nat} {g0 : Option Addr} {l0 p0 : Nat} {g1 : Option Addr} {l1 p1 : Nat} {g2 : Option Addr} {l2 p2 : Nat} {b : Ba} {time : Int} {w : World} (h : BaseAt w (.agg (baCells sa b.names.length sc g0 l0 p0 g1 l1 p1 g2 l2 p2 b)) b)
    (hst : ∀ s ∈ b.names, s.size ≤ 140737488351232) (hsz : SizesAt w) (hm : baseMay b = false) :
    Calls Tryd.prog 28 #[.agg (baCells sa b.names.length sc g0 l0 p0 g1 l1 p1 g2 l2 p2 b), .int .i64 time] w fun x w' => Below w.heap.size w w' ∧ x = .returned (.tuple #[zeroB, .int .i64 7]) := by
  obtain ⟨W0, hW0⟩ : ∃ W0, W0 = ((w.alloc (.cells (baCells sa b.names.length sc g0 l0 p0 g1 l1 p1 g2 l2 p2 b) 28)).alloc (.cells #[.int .i64 time] 3)).alloc (.cells zeroBC 28) := ⟨_, rfl⟩
  have h0 : ExpAt w (baCells sa b.names.length sc g0 l0 p0 g1 l1 p1 g2 l2 p2 b) time W0 := by
    refine ⟨by rw [hW0]; exact belowAuto, by rw [hW0]; simp, ?_, ?_, ?_⟩
    · rw [hW0, Below.heap_alloc _ _ _ (by simp; omega), Below.heap_alloc _ _ _ (by simp)]; exact heap_new _ _ rfl
    · rw [hW0, Below.heap_alloc _ _ _ (by simp)]; exact heap_new _ _ (by simp)
    · rw [hW0]; exact heap_new _ _ (by simp)
  have HP0 := Lib.hid h0
  have z0 := h0.size
  have HCK := Lib.hid (baseCheck_any (h.below h0.below) hst (hsz.below h0.below))
  rw [checkE_no hm] at HCK
  have HSZ := Lib.hid hsz
  obtain ⟨y0, y1, y2, y3, y4, y5, y6, y7, ym⟩ := h0.all
  clear h hst hsz h0 hm
  go_enter Tryd.func28, Tryd.ntmps28
  go_upto_region 1 with (fail)
  rw [← hW0]
  clear hW0
  go_wp2_with (go_at_call 25; (with_reducible refine HCK.out.mono ?_); rintro e w1 ⟨rfl, hb1⟩; have HP1 := Lib.hid (HP0.out.later hb1 z0); have z1 := HP1.out.size; clear y0 y1 y2 y3 y4 y5 y6 y7 ym; obtain ⟨y0, y1, y2, y3, y4, y5, y6, y7, ym⟩ := HP1.out.all; obtain ⟨r0, r1, r2, r3, r4, r5, r6, r7, rf⟩ := HP1.out.zs; clear hb1)
  have hbw := HP1.out.below
  exact bodyPost_ret (v := .tuple #[zeroB, .int .i64 7]) (by simp [results, Tryd.results28, go_sem, *]) rfl ⟨belowAuto, rfl⟩

set_option maxRecDepth 100000 in
set_option maxHeartbeats 4000000 in
theorem exp_neg {sa : Option Addr} {sc : Nat} {g0 : Option Addr} {l0 p0 : Nat} {g1 : Option Addr} {l1 p1 : Nat} {g2 : Option Addr} {l2 p2 : Nat} {b : Ba} {time : Int} {w : World} (h : BaseAt w (.agg (baCells sa b.names.length sc g0 l0 p0 g1 l1 p1 g2 l2 p2 b)) b)
    (hst : ∀ s ∈ b.names, s.size ≤ 140737488351232) (hsz : SizesAt w) (hm : baseMay b = true) (ht : time < 0) :
    Calls Tryd.prog 28 #[.agg (baCells sa b.names.length sc g0 l0 p0 g1 l1 p1 g2 l2 p2 b), .int .i64 time] w fun x w' => Below w.heap.size w w' ∧ x = .returned (.tuple #[zeroB, .int .i64 2]) := by
  obtain ⟨W0, hW0⟩ : ∃ W0, W0 = ((w.alloc (.cells (baCells sa b.names.length sc g0 l0 p0 g1 l1 p1 g2 l2 p2 b) 28)).alloc (.cells #[.int .i64 time] 3)).alloc (.cells zeroBC 28) := ⟨_, rfl⟩
  have h0 : ExpAt w (baCells sa b.names.length sc g0 l0 p0 g1 l1 p1 g2 l2 p2 b) time W0 := by
    refine ⟨by rw [hW0]; exact belowAuto, by rw [hW0]; simp, ?_, ?_, ?_⟩
    · rw [hW0, Below.heap_alloc _ _ _ (by simp; omega), Below.heap_alloc _ _ _ (by simp)]; exact heap_new _ _ rfl
    · rw [hW0, Below.heap_alloc _ _ _ (by simp)]; exact heap_new _ _ (by simp)
    · rw [hW0]; exact heap_new _ _ (by simp)
  have HP0 := Lib.hid h0
  have z0 := h0.size
  have HCK := Lib.hid (baseCheck_any (h.below h0.below) hst (hsz.below h0.below))
  rw [checkE_yes hm] at HCK
  have HSZ := Lib.hid hsz
  obtain ⟨y0, y1, y2, y3, y4, y5, y6, y7, ym⟩ := h0.all
  clear h hst hsz h0 hm
  go_enter Tryd.func28, Tryd.ntmps28
  go_upto_region 1 with (fail)
  rw [← hW0]
  clear hW0
  go_wp2_with (go_at_call 25; (with_reducible refine HCK.out.mono ?_); rintro e w1 ⟨rfl, hb1⟩; have HP1 := Lib.hid (HP0.out.later hb1 z0); have z1 := HP1.out.size; clear y0 y1 y2 y3 y4 y5 y6 y7 ym; obtain ⟨y0, y1, y2, y3, y4, y5, y6, y7, ym⟩ := HP1.out.all; obtain ⟨r0, r1, r2, r3, r4, r5, r6, r7, rf⟩ := HP1.out.zs; clear hb1)
  have hbw := HP1.out.below
  exact bodyPost_ret (v := .tuple #[zeroB, .int .i64 2]) (by simp [results, Tryd.results28, go_sem, *]) rfl ⟨belowAuto, rfl⟩

set_option maxRecDepth 100000 in
set_option maxHeartbeats 4000000 in
theorem exp_big {sa : Option Addr} {sc : Nat} {g0 : Option Addr} {l0 p0 : Nat} {g1 : Option Addr} {l1 p1 : Nat} {g2 : Option Addr} {l2 p2 : Nat} {b : Ba} {time : Int} {w : World} (h : BaseAt w (.agg (baCells sa b.names.length sc g0 l0 p0 g1 l1 p1 g2 l2 p2 b)) b)
    (hst : ∀ s ∈ b.names, s.size ≤ 140737488351232) (hsz : SizesAt w) (hm : baseMay b = true) (ht0 : 0 ≤ time) (ht : 1048575 < time) :
    Calls Tryd.prog 28 #[.agg (baCells sa b.names.length sc g0 l0 p0 g1 l1 p1 g2 l2 p2 b), .int .i64 time] w fun x w' => Below w.heap.size w w' ∧ x = .returned (.tuple #[zeroB, .int .i64 2]) := by
  obtain ⟨W0, hW0⟩ : ∃ W0, W0 = ((w.alloc (.cells (baCells sa b.names.length sc g0 l0 p0 g1 l1 p1 g2 l2 p2 b) 28)).alloc (.cells #[.int .i64 time] 3)).alloc (.cells zeroBC 28) := ⟨_, rfl⟩
  have h0 : ExpAt w (baCells sa b.names.length sc g0 l0 p0 g1 l1 p1 g2 l2 p2 b) time W0 := by
    refine ⟨by rw [hW0]; exact belowAuto, by rw [hW0]; simp, ?_, ?_, ?_⟩
    · rw [hW0, Below.heap_alloc _ _ _ (by simp; omega), Below.heap_alloc _ _ _ (by simp)]; exact heap_new _ _ rfl
    · rw [hW0, Below.heap_alloc _ _ _ (by simp)]; exact heap_new _ _ (by simp)
    · rw [hW0]; exact heap_new _ _ (by simp)
  have HP0 := Lib.hid h0
  have z0 := h0.size
  have HCK := Lib.hid (baseCheck_any (h.below h0.below) hst (hsz.below h0.below))
  rw [checkE_yes hm] at HCK
  have hd0 : decide (time < 0) = false := by simp; omega
  have hd1 : decide (1048575 < time) = true := by simp; omega
  have HSZ := Lib.hid hsz
  obtain ⟨y0, y1, y2, y3, y4, y5, y6, y7, ym⟩ := h0.all
  clear h hst hsz h0 hm
  go_enter Tryd.func28, Tryd.ntmps28
  go_upto_region 1 with (fail)
  rw [← hW0]
  clear hW0
  go_wp2_with (go_at_call 25; (with_reducible refine HCK.out.mono ?_); rintro e w1 ⟨rfl, hb1⟩; have HP1 := Lib.hid (HP0.out.later hb1 z0); have z1 := HP1.out.size; clear y0 y1 y2 y3 y4 y5 y6 y7 ym; obtain ⟨y0, y1, y2, y3, y4, y5, y6, y7, ym⟩ := HP1.out.all; obtain ⟨r0, r1, r2, r3, r4, r5, r6, r7, rf⟩ := HP1.out.zs; clear hb1)
  have hbw := HP1.out.below
  exact bodyPost_ret (v := .tuple #[zeroB, .int .i64 2]) (by simp [results, Tryd.results28, go_sem, *]) rfl ⟨belowAuto, rfl⟩

set_option maxRecDepth 100000 in
set_option maxHeartbeats 4000000 in
theorem exp_odd {sa : Option Addr} {sc : Nat} {g0 : Option Addr} {l0 p0 : Nat} {g1 : Option Addr} {l1 p1 : Nat} {g2 : Option Addr} {l2 p2 : Nat} {b : Ba} {time : Int} {w : World} (h : BaseAt w (.agg (baCells sa b.names.length sc g0 l0 p0 g1 l1 p1 g2 l2 p2 b)) b)
    (hst : ∀ s ∈ b.names, s.size ≤ 140737488351232) (hsz : SizesAt w) (hm : baseMay b = true) (ht0 : 0 ≤ time) (ht : time ≤ 1048575) (hr : time % 3600 ≠ 0) :
    Calls Tryd.prog 28 #[.agg (baCells sa b.names.length sc g0 l0 p0 g1 l1 p1 g2 l2 p2 b), .int .i64 time] w fun x w' => Below w.heap.size w w' ∧ x = .returned (.tuple #[zeroB, .int .i64 4]) := by
  obtain ⟨W0, hW0⟩ : ∃ W0, W0 = ((w.alloc (.cells (baCells sa b.names.length sc g0 l0 p0 g1 l1 p1 g2 l2 p2 b) 28)).alloc (.cells #[.int .i64 time] 3)).alloc (.cells zeroBC 28) := ⟨_, rfl⟩
  have h0 : ExpAt w (baCells sa b.names.length sc g0 l0 p0 g1 l1 p1 g2 l2 p2 b) time W0 := by
    refine ⟨by rw [hW0]; exact belowAuto, by rw [hW0]; simp, ?_, ?_, ?_⟩
    · rw [hW0, Below.heap_alloc _ _ _ (by simp; omega), Below.heap_alloc _ _ _ (by simp)]; exact heap_new _ _ rfl
    · rw [hW0, Below.heap_alloc _ _ _ (by simp)]; exact heap_new _ _ (by simp)
    · rw [hW0]; exact heap_new _ _ (by simp)
  have HP0 := Lib.hid h0
  have z0 := h0.size
  have HCK := Lib.hid (baseCheck_any (h.below h0.below) hst (hsz.below h0.below))
  rw [checkE_yes hm] at HCK
  have hd0 : decide (time < 0) = false := by simp; omega
  have hd1 : decide (1048575 < time) = false := by simp; omega
  obtain ⟨m1, m2⟩ := exp_rem ht0 ht
  have hd2 : (time % 3600 != 0) = true := by simp [hr]
  have HSZ := Lib.hid hsz
  obtain ⟨y0, y1, y2, y3, y4, y5, y6, y7, ym⟩ := h0.all
  clear h hst hsz h0 hm hr
  go_enter Tryd.func28, Tryd.ntmps28
  go_upto_region 1 with (fail)
  rw [← hW0]
  clear hW0
  go_wp2_with (go_at_call 25; (with_reducible refine HCK.out.mono ?_); rintro e w1 ⟨rfl, hb1⟩; have HP1 := Lib.hid (HP0.out.later hb1 z0); have z1 := HP1.out.size; clear y0 y1 y2 y3 y4 y5 y6 y7 ym; obtain ⟨y0, y1, y2, y3, y4, y5, y6, y7, ym⟩ := HP1.out.all; obtain ⟨r0, r1, r2, r3, r4, r5, r6, r7, rf⟩ := HP1.out.zs; have hs := HSZ.out.below HP1.out.below; have sz0 := hs.c2; have szl := hs.lt; clear hs; clear hb1)
  have hbw := HP1.out.below
  exact bodyPost_ret (v := .tuple #[zeroB, .int .i64 4]) (by simp [results, Tryd.results28, go_sem, *]) rfl ⟨belowAuto, rfl⟩

set_option maxRecDepth 100000 in
set_option maxHeartbeats 4000000 in
theorem exp_floor {sa : Option Addr} {sc : Nat} {g0 : Option Addr} {l0 p0 : Nat} {g1 : Option Addr} {l1 p1 : Nat} {g2 : Option Addr} {l2 p2 : Nat} {b : Ba} {time : Int} {w : World} (h : BaseAt w (.agg (baCells sa b.names.length sc g0 l0 p0 g1 l1 p1 g2 l2 p2 b)) b)
    (hst : ∀ s ∈ b.names, s.size ≤ 140737488351232) (hsz : SizesAt w) (hm : baseMay b = true) (ht0 : 0 ≤ time) (ht : time ≤ 1048575) (hr : time % 3600 = 0) (hf : time < b.floor) :
    Calls Tryd.prog 28 #[.agg (baCells sa b.names.length sc g0 l0 p0 g1 l1 p1 g2 l2 p2 b), .int .i64 time] w fun x w' => Below w.heap.size w w' ∧ x = .returned (.tuple #[zeroB, .int .i64 8]) := by
  obtain ⟨W0, hW0⟩ : ∃ W0, W0 = ((w.alloc (.cells (baCells sa b.names.length sc g0 l0 p0 g1 l1 p1 g2 l2 p2 b) 28)).alloc (.cells #[.int .i64 time] 3)).alloc (.cells zeroBC 28) := ⟨_, rfl⟩
  have h0 : ExpAt w (baCells sa b.names.length sc g0 l0 p0 g1 l1 p1 g2 l2 p2 b) time W0 := by
    refine ⟨by rw [hW0]; exact belowAuto, by rw [hW0]; simp, ?_, ?_, ?_⟩
    · rw [hW0, Below.heap_alloc _ _ _ (by simp; omega), Below.heap_alloc _ _ _ (by simp)]; exact heap_new _ _ rfl
    · rw [hW0, Below.heap_alloc _ _ _ (by simp)]; exact heap_new _ _ (by simp)
    · rw [hW0]; exact heap_new _ _ (by simp)
  have HP0 := Lib.hid h0
  have z0 := h0.size
  have HCK := Lib.hid (baseCheck_any (h.below h0.below) hst (hsz.below h0.below))
  rw [checkE_yes hm] at HCK
  have hd0 : decide (time < 0) = false := by simp; omega
  have hd1 : decide (1048575 < time) = false := by simp; omega
  obtain ⟨m1, m2⟩ := exp_rem ht0 ht
  have hd3 : decide (time < b.floor) = true := by simp [hf]
  have HSZ := Lib.hid hsz
  obtain ⟨y0, y1, y2, y3, y4, y5, y6, y7, ym⟩ := h0.all
  clear h hst hsz h0 hm hf
  go_enter Tryd.func28, Tryd.ntmps28
  go_upto_region 1 with (fail)
  rw [← hW0]
  clear hW0
  go_wp2_with (go_at_call 25; (with_reducible refine HCK.out.mono ?_); rintro e w1 ⟨rfl, hb1⟩; have HP1 := Lib.hid (HP0.out.later hb1 z0); have z1 := HP1.out.size; clear y0 y1 y2 y3 y4 y5 y6 y7 ym; obtain ⟨y0, y1, y2, y3, y4, y5, y6, y7, ym⟩ := HP1.out.all; obtain ⟨r0, r1, r2, r3, r4, r5, r6, r7, rf⟩ := HP1.out.zs; have hs := HSZ.out.below HP1.out.below; have sz0 := hs.c2; have szl := hs.lt; clear hs; clear hb1)
  have hbw := HP1.out.below
  exact bodyPost_ret (v := .tuple #[zeroB, .int .i64 8]) (by simp [results, Tryd.results28, go_sem, *]) rfl ⟨belowAuto, rfl⟩

end Go.Proofs.YtalnnghnipoogaaDoor

/- What base.Expire's loop keeps. -/
namespace Go.Proofs.YtalnnghnipoogaaDoor
open Go.RowKit

structure Kp (lo ob : Nat) (w w' : World) : Prop where
  size : w.heap.size ≤ w'.heap.size
  block : ∀ q, lo ≤ q → q ≠ ob → q < w.heap.size → w'.heap[q]? = w.heap[q]?
theorem Kp.refl (lo ob : Nat) (w : World) : Kp lo ob w w := ⟨Nat.le_refl _, fun _ _ _ _ => rfl⟩
theorem Kp.trans {lo ob : Nat} {w w1 w2 : World} (h : Kp lo ob w w1) (h' : Kp lo ob w1 w2) : Kp lo ob w w2 :=
  ⟨Nat.le_trans h.size h'.size, fun q ho hq hl => (h'.block q ho hq (Nat.lt_of_lt_of_le hl h.size)).trans (h.block q ho hq hl)⟩
theorem Kp.of {lo ob B : Nat} {w w' : World} (h : Below B w w') (hB : w.heap.size ≤ B) : Kp lo ob w w' := ⟨h.size, fun q _ _ hl => h.block q (by omega)⟩
theorem Kp.set {lo ob o : Nat} {w w' : World} (h : Kp lo ob w w') (u : Value) : Kp lo ob w (w'.setCell ⟨ob, o, none⟩ u) :=
  ⟨by simp only [heap_setCell_size]; exact h.size, fun q ho hq hl => (heap_setCell_other _ ⟨ob, _, none⟩ q _ hq).trans (h.block q ho hq hl)⟩
theorem Kp.low {lo ob c o : Nat} {w w' : World} (h : Kp lo ob w w') (hc : c < lo) (u : Value) : Kp lo ob w (w'.setCell ⟨c, o, none⟩ u) :=
  ⟨by simp only [heap_setCell_size]; exact h.size, fun q ho hq hl => (heap_setCell_other _ ⟨c, _, none⟩ q _ (by show q ≠ c; omega)).trans (h.block q ho hq hl)⟩
theorem Kp.keep {lo ob B : Nat} {w w' : World} (h : Kp lo ob w w') (hB : ob < B) (hl : lo ≤ B) : Keep B w w' := ⟨h.size, fun q hq hs => h.block q (by omega) (by omega) hs⟩
noncomputable def expM (b : Ba) (time : Int) (k : Nat) : List Ent := match allT (b.tree k) with | none => [] | some m => m.filter (young time)
structure ExpK (w : World) (cs : Array Value) (b : Ba) (time : Int) (ob k : Nat) (sn : Option Addr) (sc : Nat) (g0 : Option Addr) (l0 p0 : Nat) (r0 : Int) (g1 : Option Addr) (l1 p1 : Nat) (r1 : Int) (g2 : Option Addr) (l2 p2 : Nat) (r2 : Int) (T : Nat → Tr) (wr : World) : Prop where
  at' : ExpAt w cs time wr
  lo : w.heap.size + 3 ≤ ob
  out : wr.heap[ob]? = some (.cells #[.slice sn b.names.length sc, .slice g0 l0 p0, .int .i64 r0, .slice g1 l1 p1, .int .i64 r1, .slice g2 l2 p2, .int .i64 r2, .int .i64 time] 28)
  names : ∀ w'', Kp (w.heap.size + 3) ob wr w'' → StrsAt w'' (.slice sn b.names.length sc) b.names
  t0 : 0 < k → Made (expM b time 0) (T 0) ∧ ∀ w'', Kp (w.heap.size + 3) ob wr w'' → TreeAt w'' (.agg #[.slice g0 l0 p0, .int .i64 r0]) (T 0)
  t1 : 1 < k → Made (expM b time 1) (T 1) ∧ ∀ w'', Kp (w.heap.size + 3) ob wr w'' → TreeAt w'' (.agg #[.slice g1 l1 p1, .int .i64 r1]) (T 1)
  t2 : 2 < k → Made (expM b time 2) (T 2) ∧ ∀ w'', Kp (w.heap.size + 3) ob wr w'' → TreeAt w'' (.agg #[.slice g2 l2 p2, .int .i64 r2]) (T 2)
variable {w : World} {cs : Array Value} {b : Ba} {time : Int} {ob k : Nat} {sn : Option Addr} {sc : Nat} {g0 : Option Addr} {l0 p0 : Nat} {r0 : Int} {g1 : Option Addr} {l1 p1 : Nat} {r1 : Int} {g2 : Option Addr} {l2 p2 : Nat} {r2 : Int} {T : Nat → Tr} {wr wx : World}
theorem ExpK.lt (h : ExpK w cs b time ob k sn sc g0 l0 p0 r0 g1 l1 p1 r1 g2 l2 p2 r2 T wr) : ob < wr.heap.size := (Array.getElem?_eq_some_iff.1 h.out).1
theorem ExpK.later (h : ExpK w cs b time ob k sn sc g0 l0 p0 r0 g1 l1 p1 r1 g2 l2 p2 r2 T wr) (hb : Below wr.heap.size wr wx) : ExpK w cs b time ob k sn sc g0 l0 p0 r0 g1 l1 p1 r1 g2 l2 p2 r2 T wx := by
  have hk := Kp.of (lo := w.heap.size + 3) (ob := ob) hb (Nat.le_refl _)
  exact ⟨h.at'.later hb h.at'.size, h.lo, (hb.block _ h.lt).trans h.out, fun w'' hw => h.names w'' (hk.trans hw), fun hh => ⟨(h.t0 hh).1, fun w'' hw => (h.t0 hh).2 w'' (hk.trans hw)⟩, fun hh => ⟨(h.t1 hh).1, fun w'' hw => (h.t1 hh).2 w'' (hk.trans hw)⟩, fun hh => ⟨(h.t2 hh).1, fun w'' hw => (h.t2 hh).2 w'' (hk.trans hw)⟩⟩
theorem ExpK.cells (h : ExpK w cs b time ob k sn sc g0 l0 p0 r0 g1 l1 p1 r1 g2 l2 p2 r2 T wr) :
    wr.cell? ⟨ob, 0, none⟩ = some (.slice sn b.names.length sc) ∧ wr.cell? ⟨ob, 1, none⟩ = some (.slice g0 l0 p0) ∧ wr.cell? ⟨ob, 2, none⟩ = some (.int .i64 r0) ∧ wr.cell? ⟨ob, 3, none⟩ = some (.slice g1 l1 p1) ∧ wr.cell? ⟨ob, 4, none⟩ = some (.int .i64 r1) ∧ wr.cell? ⟨ob, 5, none⟩ = some (.slice g2 l2 p2) ∧ wr.cell? ⟨ob, 6, none⟩ = some (.int .i64 r2) ∧ wr.cell? ⟨ob, 7, none⟩ = some (.int .i64 time) ∧ ∀ o, wr.frozen? ⟨ob, o, none⟩ = false := by
  have h1 := h.out
  simp [World.cell?, World.frozen?, h1]
theorem ExpAt.put {o : Nat} (h : ExpAt w cs time wx) (hob : w.heap.size + 3 ≤ ob) (u : Value) : ExpAt w cs time (wx.setCell ⟨ob, o, none⟩ u) :=
  ⟨h.below.setCell (by show w.heap.size ≤ ob; omega) _, by simp only [heap_setCell_size]; exact h.size, (heap_setCell_other _ ⟨ob, _, none⟩ _ _ (by show w.heap.size ≠ ob; omega)).trans h.box, (heap_setCell_other _ ⟨ob, _, none⟩ _ _ (by show w.heap.size + 1 ≠ ob; omega)).trans h.tm, (heap_setCell_other _ ⟨ob, _, none⟩ _ _ (by show w.heap.size + 2 ≠ ob; omega)).trans h.res⟩
theorem ExpK.step0 {B : Nat} {so : Option Addr} {n c : Nat} {rt : Int} {t' : Tr} (h : ExpK w cs b time ob 0 sn sc g0 l0 p0 r0 g1 l1 p1 r1 g2 l2 p2 r2 T wr) (hb : Below wr.heap.size wr wx) (hB : ob < B)
    (htr : ∀ w'', Keep B wx w'' → TreeAt w'' (.agg #[.slice so n c, .int .i64 rt]) t') (hm : Made (expM b time 0) t') :
    ExpK w cs b time ob 1 sn sc so n c rt g1 l1 p1 r1 g2 l2 p2 r2 (fun j => if j = 0 then t' else T j) ((wx.setCell ⟨ob, 1, none⟩ (.slice so n c)).setCell ⟨ob, 2, none⟩ (.int .i64 rt)) := by
  have hx := h.later hb
  have hk : Kp (w.heap.size + 3) ob wx ((wx.setCell ⟨ob, 1, none⟩ (.slice so n c)).setCell ⟨ob, 2, none⟩ (.int .i64 rt)) := ((Kp.refl _ _ _).set _).set _
  refine ⟨(hx.at'.put h.lo _).put h.lo _, h.lo, ?_, fun w'' hw => hx.names w'' (hk.trans hw), fun _ => ⟨by rw [if_pos rfl]; exact hm, fun w'' hw => by rw [if_pos rfl]; exact htr w'' ((hk.trans hw).keep hB (by have := h.lo; omega))⟩, fun hh => absurd hh (by decide), fun hh => absurd hh (by decide)⟩
  have := heap_setCell_same (off := 2) (v := .int .i64 rt) (heap_setCell_same (off := 1) (v := .slice so n c) hx.out)
  simpa using this
theorem ExpK.step1 {B : Nat} {so : Option Addr} {n c : Nat} {rt : Int} {t' : Tr} (h : ExpK w cs b time ob 1 sn sc g0 l0 p0 r0 g1 l1 p1 r1 g2 l2 p2 r2 T wr) (hb : Below wr.heap.size wr wx) (hB : ob < B)
    (htr : ∀ w'', Keep B wx w'' → TreeAt w'' (.agg #[.slice so n c, .int .i64 rt]) t') (hm : Made (expM b time 1) t') :
    ExpK w cs b time ob 2 sn sc g0 l0 p0 r0 so n c rt g2 l2 p2 r2 (fun j => if j = 1 then t' else T j) ((wx.setCell ⟨ob, 3, none⟩ (.slice so n c)).setCell ⟨ob, 4, none⟩ (.int .i64 rt)) := by
  have hx := h.later hb
  have hk : Kp (w.heap.size + 3) ob wx ((wx.setCell ⟨ob, 3, none⟩ (.slice so n c)).setCell ⟨ob, 4, none⟩ (.int .i64 rt)) := ((Kp.refl _ _ _).set _).set _
  refine ⟨(hx.at'.put h.lo _).put h.lo _, h.lo, ?_, fun w'' hw => hx.names w'' (hk.trans hw), fun _ => ?_, fun _ => ⟨by rw [if_pos rfl]; exact hm, fun w'' hw => by rw [if_pos rfl]; exact htr w'' ((hk.trans hw).keep hB (by have := h.lo; omega))⟩, fun hh => absurd hh (by decide)⟩
  · have := heap_setCell_same (off := 4) (v := .int .i64 rt) (heap_setCell_same (off := 3) (v := .slice so n c) hx.out)
    simpa using this
  · rw [if_neg (by decide)]
    obtain ⟨q1, q2⟩ := hx.t0 (by decide)
    exact ⟨q1, fun w'' hw => q2 w'' (hk.trans hw)⟩
theorem ExpK.step2 {B : Nat} {so : Option Addr} {n c : Nat} {rt : Int} {t' : Tr} (h : ExpK w cs b time ob 2 sn sc g0 l0 p0 r0 g1 l1 p1 r1 g2 l2 p2 r2 T wr) (hb : Below wr.heap.size wr wx) (hB : ob < B)
    (htr : ∀ w'', Keep B wx w'' → TreeAt w'' (.agg #[.slice so n c, .int .i64 rt]) t') (hm : Made (expM b time 2) t') :
    ExpK w cs b time ob 3 sn sc g0 l0 p0 r0 g1 l1 p1 r1 so n c rt (fun j => if j = 2 then t' else T j) ((wx.setCell ⟨ob, 5, none⟩ (.slice so n c)).setCell ⟨ob, 6, none⟩ (.int .i64 rt)) := by
  have hx := h.later hb
  have hk : Kp (w.heap.size + 3) ob wx ((wx.setCell ⟨ob, 5, none⟩ (.slice so n c)).setCell ⟨ob, 6, none⟩ (.int .i64 rt)) := ((Kp.refl _ _ _).set _).set _
  refine ⟨(hx.at'.put h.lo _).put h.lo _, h.lo, ?_, fun w'' hw => hx.names w'' (hk.trans hw), fun _ => ?_, fun _ => ?_, fun _ => ⟨by rw [if_pos rfl]; exact hm, fun w'' hw => by rw [if_pos rfl]; exact htr w'' ((hk.trans hw).keep hB (by have := h.lo; omega))⟩⟩
  · have := heap_setCell_same (off := 6) (v := .int .i64 rt) (heap_setCell_same (off := 5) (v := .slice so n c) hx.out)
    simpa using this
  · rw [if_neg (by decide)]
    obtain ⟨q1, q2⟩ := hx.t0 (by decide)
    exact ⟨q1, fun w'' hw => q2 w'' (hk.trans hw)⟩
  · rw [if_neg (by decide)]
    obtain ⟨q1, q2⟩ := hx.t1 (by decide)
    exact ⟨q1, fun w'' hw => q2 w'' (hk.trans hw)⟩
theorem exp_tree {l : List Ent} (h : expF b time = 0) (hl : bookR b = some l) (k : Nat) (hk : k < 3) :
    ∃ m, treeFault (b.tree k) = 0 ∧ allR (b.tree k) 0 1099511627776 = some m ∧ expM b time k = m.filter (young time) ∧ (∀ e ∈ m, 0 ≤ e.key) ∧ m.length ≤ 50000 ∧ (expM b time k).length ≤ (expL b time).length ∧ entsE none (expM b time k) = 0 := by
  obtain ⟨m, g1, g2, g3, g4, g5⟩ := exp_knows h hl k hk
  have hm : expM b time k = m.filter (young time) := by unfold expM; rw [g1]
  have hL : expL b time = l.filter (young time) := by unfold expL; rw [hl]
  obtain ⟨mr, mg⟩ := allT_good g1
  have ha : treeFault (b.tree k) = 0 ∧ allR (b.tree k) 0 1099511627776 = some m := by
    unfold allT at g1
    split at g1
    · rename_i hf; exact ⟨hf, g1⟩
    · cases g1
  refine ⟨m, ha.1, ha.2, hm, fun e he => (mg.2.1 e he).1, mg.2.2, by rw [hm, hL]; exact g5, ?_⟩
  rw [hm]
  have hz : ∀ (q : List Ent) (p : Option Int), Rising q → Checked q → (∀ e ∈ q, 0 ≤ e.key ∧ e.key < 1099511627776) → (∀ e ∈ q, ∀ x, p = some x → x < e.key) → entsE p q = 0 := by
    intro q
    induction q with
    | nil => intro p _ _ _ _; rfl
    | cons e q ih =>
      intro p hr hc hk hp
      have hc0 := hc e (List.mem_cons_self ..)
      have hk0 := hk e (List.mem_cons_self ..)
      show (if ∃ k, p = some k ∧ e.key ≤ k then (8 : Int) else if e.key < 0 ∨ 1099511627776 ≤ e.key ∨ e.is.c = 0 then 2 else if rollCheck e.is ≠ 0 then rollCheck e.is else entsE (some e.key) q) = 0
      rw [if_neg (fun ⟨x, h1, h2⟩ => by have := hp e (List.mem_cons_self ..) x h1; omega), if_neg (by have := hc0.1; omega), if_neg (by have := hc0.2; omega)]
      refine ih _ (List.Pairwise.of_cons hr) (fun y hy => hc y (List.mem_cons_of_mem _ hy)) (fun y hy => hk y (List.mem_cons_of_mem _ hy)) fun y hy x hx => ?_
      obtain rfl := Option.some.inj hx
      exact (List.pairwise_cons.1 hr).1 y hy
  exact hz _ _ g3 g4 (fun e he => mg.2.1 e (List.mem_filter.1 he).1) (fun e _ x hx => by cases hx)
end Go.Proofs.YtalnnghnipoogaaDoor

/- The walk of base.Expire, where nothing is wrong ahead. -/
namespace Go.Proofs.YtalnnghnipoogaaDoor
open Go.RowKit

def ExpGo (b : Ba) (time : Int) (x : Ending) (w' : World) : Prop :=
  (x = .returned (.tuple #[zeroB, .int .i64 1]) ∧ 2900 < (expL b time).length) ∨
  (∃ b' sa sc g0 l0 p0 g1 l1 p1 g2 l2 p2, x = .returned (.tuple #[.agg (baCells sa b'.names.length sc g0 l0 p0 g1 l1 p1 g2 l2 p2 b'), .int .i64 0]) ∧ BaseAt w' (.agg (baCells sa b'.names.length sc g0 l0 p0 g1 l1 p1 g2 l2 p2 b')) b' ∧ b'.names = b.names ∧ b'.floor = time ∧ baseMay b' = true ∧ bookR b' = some (expL b time))
theorem ofForm_err {b : Ba} {time : Int} {B : Nat} {l : List Ent} {w' : World} {so : Option Addr} {n c : Nat} {rt E2 : Int} (h : OfFormK B l w' so n c rt E2) (h0 : E2 ≠ 0) (hz : entsE none l = 0) (hl : l.length ≤ (expL b time).length) : E2 = 1 ∧ so = none ∧ n = 0 ∧ c = 0 ∧ rt = 0 ∧ 2900 < (expL b time).length := by
  rcases h with ⟨-, h1, h2, h3, h4, h5 | ⟨h5, h6⟩⟩ | ⟨h1, -⟩
  · exact absurd (h5.trans hz) h0
  · exact ⟨h5, h2, h1, h3, h4, by omega⟩
  · exact absurd h1 h0
theorem ofForm_ok {B : Nat} {l : List Ent} {w' : World} {so : Option Addr} {n c : Nat} {rt : Int} (h : OfFormK B l w' so n c rt 0) : ∃ t, (∀ w'', Keep B w' w'' → TreeAt w'' (.agg #[.slice so n c, .int .i64 rt]) t) ∧ Made l t := by
  rcases h with ⟨h1, -⟩ | ⟨-, -, h1⟩
  · exact absurd rfl h1
  · exact h1
theorem idx_tree0 {g0 g1 g2 : Option Addr} {l0 p0 l1 p1 l2 p2 : Nat} {r0 r1 r2 : Int} (w : World) : (Instr.index 26 (.agg #[.slice g0 l0 p0, .int .i64 r0, .slice g1 l1 p1, .int .i64 r1, .slice g2 l2 p2, .int .i64 r2]) (.int .i64 0)).run Tryd.prog w = .ok (.agg #[.slice g0 l0 p0, .int .i64 r0]) w := by kernel_rfl
theorem idx_tree1 {g0 g1 g2 : Option Addr} {l0 p0 l1 p1 l2 p2 : Nat} {r0 r1 r2 : Int} (w : World) : (Instr.index 26 (.agg #[.slice g0 l0 p0, .int .i64 r0, .slice g1 l1 p1, .int .i64 r1, .slice g2 l2 p2, .int .i64 r2]) (.int .i64 1)).run Tryd.prog w = .ok (.agg #[.slice g1 l1 p1, .int .i64 r1]) w := by kernel_rfl
theorem idx_tree2 {g0 g1 g2 : Option Addr} {l0 p0 l1 p1 l2 p2 : Nat} {r0 r1 r2 : Int} (w : World) : (Instr.index 26 (.agg #[.slice g0 l0 p0, .int .i64 r0, .slice g1 l1 p1, .int .i64 r1, .slice g2 l2 p2, .int .i64 r2]) (.int .i64 2)).run Tryd.prog w = .ok (.agg #[.slice g2 l2 p2, .int .i64 r2]) w := by kernel_rfl
theorem expK_start {w : World} {cs : Array Value} {b : Ba} {time : Int} {wx : World} {ob : Nat} {sn : Option Addr} {sc B : Nat} (hA : ExpAt w cs time wx) (ho : wx.ownsRow B 9 1 (.slice sn b.names.length sc) b.names.length (b.names.flatMap enStr)) (hob : wx.heap[ob]? = some (.cells zeroBC 28))
    (hlo : w.heap.size + 3 ≤ ob) (hBl : w.heap.size + 3 ≤ B) (hne : ∀ g, (Value.slice sn b.names.length sc).ownBlock = some g → g ≠ ob) (hnl : b.names.length ≤ 16) (T : Nat → Tr) :
    ExpK w cs b time ob 0 sn sc none 0 0 0 none 0 0 0 none 0 0 0 T ((((((((wx.setCell ⟨ob, 0, none⟩ (.slice sn b.names.length sc)).setCell ⟨ob, 1, none⟩ (.slice none 0 0)).setCell ⟨ob, 2, none⟩ (.int .i64 0)).setCell ⟨ob, 3, none⟩ (.slice none 0 0)).setCell ⟨ob, 4, none⟩ (.int .i64 0)).setCell ⟨ob, 5, none⟩ (.slice none 0 0)).setCell ⟨ob, 6, none⟩ (.int .i64 0)).setCell ⟨ob, 7, none⟩ (.int .i64 time)) := by
  have hk : Kp (w.heap.size + 3) ob wx ((((((((wx.setCell ⟨ob, 0, none⟩ (.slice sn b.names.length sc)).setCell ⟨ob, 1, none⟩ (.slice none 0 0)).setCell ⟨ob, 2, none⟩ (.int .i64 0)).setCell ⟨ob, 3, none⟩ (.slice none 0 0)).setCell ⟨ob, 4, none⟩ (.int .i64 0)).setCell ⟨ob, 5, none⟩ (.slice none 0 0)).setCell ⟨ob, 6, none⟩ (.int .i64 0)).setCell ⟨ob, 7, none⟩ (.int .i64 time)) :=
    ((((((((Kp.refl _ _ _).set _).set _).set _).set _).set _).set _).set _).set _
  refine ⟨(((((((hA.put hlo _).put hlo _).put hlo _).put hlo _).put hlo _).put hlo _).put hlo _).put hlo _, hlo, heap_set8 hob, fun w'' hw => SlAt.owned enStr_length (owns_block ho fun g hg => (hk.trans hw).block g (by have := (ho.lt g hg).1; omega) (hne g hg) (ho.lt g hg).2) rfl (by omega), fun hh => absurd hh (by decide), fun hh => absurd hh (by decide), fun hh => absurd hh (by decide)⟩

set_option maxRecDepth 100000 in
set_option maxHeartbeats 4000000 in
theorem exp_go {sa : Option Addr} {sc : Nat} {g0 : Option Addr} {l0 p0 : Nat} {g1 : Option Addr} {l1 p1 : Nat} {g2 : Option Addr} {l2 p2 : Nat} {b : Ba} {time : Int} {w : World} (h : BaseAt w (.agg (baCells sa b.names.length sc g0 l0 p0 g1 l1 p1 g2 l2 p2 b)) b)
    (hst : ∀ s ∈ b.names, s.size ≤ 140737488351232) (hsz : SizesAt w) (hF : expF b time = 0) :
    Calls Tryd.prog 28 #[.agg (baCells sa b.names.length sc g0 l0 p0 g1 l1 p1 g2 l2 p2 b), .int .i64 time] w fun x w' => Below w.heap.size w w' ∧ ExpGo b time x w' := by
  obtain ⟨W0, hW0⟩ : ∃ W0, W0 = ((w.alloc (.cells (baCells sa b.names.length sc g0 l0 p0 g1 l1 p1 g2 l2 p2 b) 28)).alloc (.cells #[.int .i64 time] 3)).alloc (.cells zeroBC 28) := ⟨_, rfl⟩
  have h0 : ExpAt w (baCells sa b.names.length sc g0 l0 p0 g1 l1 p1 g2 l2 p2 b) time W0 := by
    refine ⟨by rw [hW0]; exact belowAuto, by rw [hW0]; simp, ?_, ?_, ?_⟩
    · rw [hW0, Below.heap_alloc _ _ _ (by simp; omega), Below.heap_alloc _ _ _ (by simp)]; exact heap_new _ _ rfl
    · rw [hW0, Below.heap_alloc _ _ _ (by simp)]; exact heap_new _ _ (by simp)
    · rw [hW0]; exact heap_new _ _ (by simp)
  have HP0 := Lib.hid h0
  have z0 := h0.size
  have HCK := Lib.hid (baseCheck_any (h.below h0.below) hst (hsz.below h0.below))
  have HF := Lib.hid hF
  obtain ⟨hm, ht0, ht, hr, hf⟩ := expF_ok hF
  rw [checkE_yes hm] at HCK
  have hd0 : decide (time < 0) = false := by simp; omega
  have hd1 : decide (1048575 < time) = false := by simp; omega
  obtain ⟨m1, m2⟩ := exp_rem ht0 ht
  have hd3 : decide (time < b.floor) = false := by simp; omega
  obtain ⟨l, hl⟩ : ∃ l, bookR b = some l := by obtain ⟨l, hl, -⟩ := base_knows hm; exact ⟨l, hl⟩
  have HL := Lib.hid hl
  have h16 : b.names.length ≤ 16 := (baseMay_ok hm).n16
  have HSZ := Lib.hid hsz
  obtain ⟨_, _, _, _, _, _, _, _, _, _, _, hv, hnl, hnames, T0, T1, T2⟩ := h.open
  injection hv with hv
  simp only [baCells, Array.mk.injEq, List.cons.injEq, Value.slice.injEq, and_true] at hv
  obtain ⟨⟨rfl, -, rfl⟩, ⟨rfl, rfl, rfl⟩, -, ⟨rfl, rfl, rfl⟩, -, rfl, rfl, rfl⟩ := hv
  have HCL := Lib.hid fun W (hb : Below w.heap.size w W) => cloneStr_any (hnames.below hb (Nat.le_refl _))
  have HT0 := Lib.hid fun W (hb : Below w.heap.size w W) => all_any (lo := 0) (hi := 1099511627776) (T0 W hb)
  have HT1 := Lib.hid fun W (hb : Below w.heap.size w W) => all_any (lo := 0) (hi := 1099511627776) (T1 W hb)
  have HT2 := Lib.hid fun W (hb : Below w.heap.size w W) => all_any (lo := 0) (hi := 1099511627776) (T2 W hb)
  obtain ⟨y0, y1, y2, y3, y4, y5, y6, y7, ym⟩ := h0.all
  have hmf : ∀ (fn : Fn) (first cap : Array Value) (w : World), (Instr.makeFunc fn first cap).run Tryd.prog w = .ok (.func fn first cap) w := fun _ _ _ _ => rfl
  clear h hst hsz h0 hF hm hf hl T0 T1 T2 hnames
  go_enter Tryd.func28, Tryd.ntmps28
  go_upto_region 1 with (fail)
  rw [← hW0]
  clear hW0
  go_upto_region 10 with (go_at_call 25; (with_reducible refine HCK.out.mono ?_); rintro e w1 ⟨rfl, hb1⟩; have HP1 := Lib.hid (HP0.out.later hb1 z0); have z1 := HP1.out.size; clear y0 y1 y2 y3 y4 y5 y6 y7 ym; obtain ⟨y0, y1, y2, y3, y4, y5, y6, y7, ym⟩ := HP1.out.all; obtain ⟨r0, r1, r2, r3, r4, r5, r6, r7, rf⟩ := HP1.out.zs; have hs := HSZ.out.below HP1.out.below; have sz0 := hs.c2; have szl := hs.lt; clear hs; clear hb1)
  clear sz0 szl hr m1 m2 hd0 hd1 hd3 r0 r1 r2 r3 r4 r5 r6 r7 rf
  go_cut [7] (fun p wx => ∃ (ob : Nat) (sn : Option Addr) (sc' : Nat), p = .pointer (some ⟨ob, 0, none⟩) ∧ Hid (ExpK w (baCells sa b.names.length sc g0 l0 p0 g1 l1 p1 g2 l2 p2 b) b time ob 0 sn sc' none 0 0 0 none 0 0 0 none 0 0 0 (fun j => b.tree j) wx))
  case first =>
    have HD := Lib.hid (HP1.out.later (B := w1.heap.size) (w2 := w1.drew) (Below.drew (Below.refl _ _)) z1)
    refine wp_region_fork (Sch.of [(0, 1), (1, 0), (3, 0)] (.fork 2 5 (Sch.of [(4, 1), (5, 2), (6, 3)] .nil) (Sch.of [(2, 2), (4, 1), (6, 3)] .nil))) 6
      (fun W => W.cell? ⟨w.heap.size, 0, none⟩ = some (.slice sa b.names.length sc) ∧ W.cell? ⟨w.heap.size + 1, 0, none⟩ = some (.int .i64 time)) (by kernel_rfl) (by kernel_rfl) ⟨y0, ym⟩ ?_
    simp only [Sch.of]
    (repeat (first | ((refine fork_pure (v := ?_) rfl rfl (fun W => ?_) ?_); rotate_left; focus (go_simp; (try with_reducible rfl); done)) | ((refine fork_read (v := ?_) rfl rfl (fun W hW => ?_) ?_); rotate_left; focus ((try dsimp only at hW); go_simp; (try with_reducible rfl); done))))
    refine fork_both rfl rfl rfl rfl (fun K hK => ?_) (fun K hK => ?_)
    · go_simp
      (with_reducible refine (HCL.out w1.drew (HD.out.below)).mono ?_)
      rintro e w2 ⟨nv, rfl, hown, hb2⟩
      obtain ⟨sn, sc', rfl⟩ := owns_slice hown
      go_simp
      have hzz : w1.drew.heap.size = w1.heap.size := rfl
      have hs2 := hb2.size
      refine hK _ _ ⟨(hb2.cell (p := ⟨w.heap.size, 0, none⟩) (by show w.heap.size < _; omega)).trans y0, (hb2.cell (p := ⟨w.heap.size + 1, 0, none⟩) (by show w.heap.size + 1 < _; omega)).trans ym⟩ ?_
      clear hK K
      have HO2 := Lib.hid hown
      have HB2 := Lib.hid hb2
      obtain ⟨W3, hW3⟩ : ∃ W3, W3 = w2.alloc (.cells zeroBC 28) := ⟨_, rfl⟩
      have hb3 : Below w2.heap.size w2 W3 := by rw [hW3]; exact belowAuto
      have k3 : W3.heap[w2.heap.size]? = some (.cells zeroBC 28) := by rw [hW3]; exact heap_new _ _ rfl
      have HX3 := Lib.hid ((HD.out.later hb2 (by omega)).later hb3 (by omega))
      have HB3 := Lib.hid hb3
      have HK3 := Lib.hid k3
      clear hown hb2 hb3
      (repeat (first | ((refine fork_pure (v := ?_) rfl rfl (fun W => ?_) ?_); rotate_left; focus (go_simp; (try with_reducible rfl); done)) | ((refine fork_read (v := ?_) rfl rfl (fun W hW => ?_) ?_); rotate_left; focus ((try dsimp only at hW); go_simp; (try with_reducible rfl); done))))
      refine fork_does rfl rfl (fun K hK => ?_)
      go_simp
      rw [← hW3]
      obtain ⟨c0, c1, c2, c3, c4, c5, c6, c7, cf⟩ : W3.cell? ⟨w2.heap.size, 0, none⟩ = some (.slice none 0 0) ∧ W3.cell? ⟨w2.heap.size, 1, none⟩ = some (.slice none 0 0) ∧ W3.cell? ⟨w2.heap.size, 2, none⟩ = some (.int .i64 0) ∧ W3.cell? ⟨w2.heap.size, 3, none⟩ = some (.slice none 0 0) ∧ W3.cell? ⟨w2.heap.size, 4, none⟩ = some (.int .i64 0) ∧ W3.cell? ⟨w2.heap.size, 5, none⟩ = some (.slice none 0 0) ∧ W3.cell? ⟨w2.heap.size, 6, none⟩ = some (.int .i64 0) ∧ W3.cell? ⟨w2.heap.size, 7, none⟩ = some (.int .i64 0) ∧ ∀ o, W3.frozen? ⟨w2.heap.size, o, none⟩ = false := by simp [World.cell?, World.frozen?, k3]
      obtain ⟨y0', -, -, -, -, -, -, -, ym'⟩ := HX3.out.all
      refine hK _ _ ⟨y0', ym'⟩ ?_
      clear hK K hW3 k3 y0' ym'
      refine fork_last rfl rfl (fun K hK => ?_)
      go_simp
      refine hK _ _ ?_
      clear hK K
      refine fork_end ?_
      go_wp2_with fail
      go_meet
      exact ⟨w2.heap.size, sn, sc', rfl, Lib.hid (expK_start HX3.out (owns_below HO2.out HB3.out) HK3.out (by omega) (by omega) (fun g hg e => by have := (HO2.out.lt g hg).2; omega) h16 _)⟩
    · go_simp
      obtain ⟨W2, hW2⟩ : ∃ W2, W2 = (w1.alloc (.cells zeroBC 28)).drew := ⟨_, rfl⟩
      have hb2 : Below w1.heap.size w1 W2 := by rw [hW2]; exact belowAuto
      have k2 : W2.heap[w1.heap.size]? = some (.cells zeroBC 28) := by rw [hW2]; exact heap_new _ _ rfl
      have hz2 : W2.heap.size = w1.heap.size + 1 := by rw [hW2]; simp
      have hx2 := HP1.out.later hb2 z1
      have HX2 := Lib.hid hx2
      have HK2 := Lib.hid k2
      rw [← hW2]
      obtain ⟨y0', -, -, -, -, -, -, -, ym'⟩ := hx2.all
      refine hK _ _ ⟨y0', ym'⟩ ?_
      clear hK K hW2 k2 hx2
      refine fork_does rfl rfl (fun K hK => ?_)
      go_simp
      (with_reducible refine (HCL.out W2 (HX2.out.below)).mono ?_)
      rintro e w3 ⟨nv, rfl, hown, hb3⟩
      obtain ⟨sn, sc', rfl⟩ := owns_slice hown
      go_simp
      have hs3 := hb3.size
      have hx3 := HX2.out.later hb3 (by omega)
      have HX3 := Lib.hid hx3
      have k3 := (hb3.block _ (by omega)).trans HK2.out
      have HK3 := Lib.hid k3
      have HO3 := Lib.hid hown
      clear y0' ym'
      obtain ⟨y0', -, -, -, -, -, -, -, ym'⟩ := hx3.all
      obtain ⟨c0, c1, c2, c3, c4, c5, c6, c7, cf⟩ : w3.cell? ⟨w1.heap.size, 0, none⟩ = some (.slice none 0 0) ∧ w3.cell? ⟨w1.heap.size, 1, none⟩ = some (.slice none 0 0) ∧ w3.cell? ⟨w1.heap.size, 2, none⟩ = some (.int .i64 0) ∧ w3.cell? ⟨w1.heap.size, 3, none⟩ = some (.slice none 0 0) ∧ w3.cell? ⟨w1.heap.size, 4, none⟩ = some (.int .i64 0) ∧ w3.cell? ⟨w1.heap.size, 5, none⟩ = some (.slice none 0 0) ∧ w3.cell? ⟨w1.heap.size, 6, none⟩ = some (.int .i64 0) ∧ w3.cell? ⟨w1.heap.size, 7, none⟩ = some (.int .i64 0) ∧ ∀ o, w3.frozen? ⟨w1.heap.size, o, none⟩ = false := by simp [World.cell?, World.frozen?, k3]
      refine hK _ _ ⟨y0', ym'⟩ ?_
      clear hK K hown hb3 hx3 k3 y0' ym'
      (repeat (first | ((refine fork_pure (v := ?_) rfl rfl (fun W => ?_) ?_); rotate_left; focus (go_simp; (try with_reducible rfl); done)) | ((refine fork_read (v := ?_) rfl rfl (fun W hW => ?_) ?_); rotate_left; focus ((try dsimp only at hW); go_simp; (try with_reducible rfl); done))))
      refine fork_last rfl rfl (fun K hK => ?_)
      go_simp
      refine hK _ _ ?_
      clear hK K
      refine fork_end ?_
      go_wp2_with fail
      go_meet
      exact ⟨w1.heap.size, sn, sc', rfl, Lib.hid (expK_start HX3.out HO3.out HK3.out (by omega) (by omega) (fun g hg e => by have := (HO3.out.lt g hg).1; omega) h16 _)⟩
  case rest =>
    obtain ⟨ob, sn, sc', rfl, HA0⟩ := hcut
    have hx := HA0.out
    obtain ⟨y0, y1, y2, y3, y4, y5, y6, y7, ym⟩ := hx.at'.all
    clear hx HP1 HP0 HCK HCL HSZ
    go_upto_region 12 with (fail)
    clear y0 y1 y2 y3 y4 y5 y6 y7 ym
    go_loopg [46] 3 (fun g i wr => ∃ k, k ≤ 3 ∧ g = 3 - k ∧ i = .int .i64 k ∧ Hid (∃ h0 m0 n0 r0 h1 m1 n1 r1 h2 m2 n2 r2 T, ExpK w (baCells sa b.names.length sc g0 l0 p0 g1 l1 p1 g2 l2 p2 b) b time ob k sn sc' h0 m0 n0 r0 h1 m1 n1 r1 h2 m2 n2 r2 T wr))
    case atStart => exact ⟨0, by omega, rfl, rfl, Lib.hid ⟨_, _, _, _, _, _, _, _, _, _, _, _, _, HA0.out⟩⟩
    case round =>
      clear HA0
      obtain ⟨k, hk, rfl, rfl, HR⟩ := hrel
      obtain ⟨h0, m0, n0, r0, h1, m1, n1, r1, h2, m2, n2, r2, T, hA⟩ := HR.out
      by_cases hlt : k < 3
      · obtain rfl | rfl | rfl : k = 0 ∨ k = 1 ∨ k = 2 := by omega
        · obtain ⟨m, t1, t2, t3, t4, t5, t6, t7⟩ := exp_tree HF.out HL.out 0 (by decide)
          have HA := Lib.hid hA
          obtain ⟨hd1', hd2', hd3', hd4', hd5', hd6', hd7', hd8', hdf⟩ := hA.cells
          have hzr := hA.at'.size
          have hlo := hA.lo
          have hol := hA.lt
          obtain ⟨W1, hW1⟩ : ∃ W1, W1 = wr.alloc (.cells #[.slice g0 l0 p0, .int .i64 b.t0.root] 25) := ⟨_, rfl⟩
          have hb1 : Below wr.heap.size wr W1 := by rw [hW1]; exact belowAuto
          have k1 : W1.heap[wr.heap.size]? = some (.cells #[.slice g0 l0 p0, .int .i64 b.t0.root] 25) := by rw [hW1]; exact heap_new _ _ rfl
          have hz1 : W1.heap.size = wr.heap.size + 1 := by rw [hW1]; simp
          have HA1 := Lib.hid (hA.later hb1)
          obtain ⟨c0, c1⟩ : W1.cell? ⟨wr.heap.size, 0, none⟩ = some (.slice g0 l0 p0) ∧ W1.cell? ⟨wr.heap.size, 1, none⟩ = some (.int .i64 b.t0.root) := by simp [World.cell?, k1]
          have HALL := Lib.hid (HT0.out W1 HA1.out.at'.below)
          have HTR := Lib.hid (And.intro t1 (And.intro t2 (And.intro t3 (And.intro t4 (And.intro t5 (And.intro t6 t7))))))
          have hit := @idx_tree0 g0 g1 g2 l0 p0 l1 p1 l2 p2 b.t0.root b.t1.root b.t2.root
          clear hA t1 t2 t3 t4 t5 t6 t7
          go_upto_region 14 with (fail)
          rw [← hW1]
          clear hW1 k1
          go_upto_region 15 with ((go_at_call 54; (with_reducible refine HALL.out.mono ?_); rintro e w2 ⟨hb2, -, hok⟩; have hok := hok HTR.out.1; rw [show allR b.t0 0 1099511627776 = some m from HTR.out.2.1] at hok; obtain ⟨v2, rfl, ho2⟩ := hok; obtain ⟨su, sd, rfl⟩ := ho2.isSlice; have HA2 := Lib.hid (HA1.out.later hb2); have hz2 := hb2.size; have HO2 := Lib.hid ho2; have HB2 := Lib.hid hb2; clear hb2 ho2))
          go_upto_region 18 with ((go_at_call 63; (with_reducible refine (delOld_any (time := time) (tb := w.heap.size + 1) HO2.out (by have := HTR.out.2.2.2.2.1; omega) HTR.out.2.2.2.1 (by have h := HA2.out.at'.tm; simp [World.cell?, h]) (by omega) hz2).mono ?_); rintro e w3 ⟨v3, rfl, hb3, ho3⟩; obtain ⟨sv, se, rfl⟩ := ho3.isSlice))
          have hfl : (m.filter (young time)).length ≤ 50000 := Nat.le_trans (List.length_filter_le _ _) HTR.out.2.2.2.2.1
          have HOF := Lib.hid (treeOf_formK (ho3.at (by omega)))
          have HB3 := Lib.hid (HB2.out.trans hb3)
          have HA3 := Lib.hid (HA1.out.later HB3.out)
          have hz3 := hb3.size
          have HLE := Lib.hid (And.intro HTR.out.2.2.1 (And.intro HTR.out.2.2.2.2.2.1 HTR.out.2.2.2.2.2.2))
          obtain ⟨L, hL⟩ : ∃ L, m.filter (young time) = L := ⟨_, rfl⟩
          rw [hL] at HLE HOF ho3 hfl ⊢
          clear hL ho3 hb3 HO2 HTR HB2 c0 c1 hd1' hd2' hd3' hd4' hd5' hd6' hd7' hd8' hdf
          go_upto_region 19 with ((go_at_call 65; (with_reducible refine HOF.out.mono ?_); rintro e w4 ⟨hb4, so, n, c, rt, E2, rfl, hof⟩; have HA4 := Lib.hid (HA3.out.later hb4); have HOK := Lib.hid hof; have HB4 := Lib.hid (Below.trans' hb1 (Below.trans' HB3.out hb4 (by omega)) (by omega)); obtain ⟨x0, x1, x2, x3, x4, x5, x6, x7, xf⟩ := HA4.out.cells; clear hb4 hof))
          clear x0 x1 x2 x3 x4 x5 x6 x7 xf
          by_cases h0 : E2 = 0
          · subst h0
            go_wp2_with fail
            go_roundg (3 - (0 + 1))
            case measure => omega
            case rel =>
              obtain ⟨t', q1, q2⟩ := ofForm_ok HOK.out
              rw [← HLE.out.1] at q2
              exact ⟨0 + 1, by omega, rfl, by go_num, Lib.hid ⟨_, _, _, _, _, _, _, _, _, _, _, _, _, HA.out.step0 HB4.out (by omega) q1 q2⟩⟩
          · have d2 : (E2 != 0) = true := by simp [h0]
            obtain ⟨rfl, rfl, rfl, rfl, rfl, hlong⟩ := ofForm_err (b := b) (time := time) HOK.out h0 (by rw [← HLE.out.1]; exact HLE.out.2.2) (by rw [← HLE.out.1]; exact HLE.out.2.1)
            have HLO := Lib.hid hlong
            have HPZ := Lib.hid ((HA4.out.at'.put hlo (o := 1) (.slice none 0 0)).put hlo (o := 2) (.int .i64 0))
            obtain ⟨z0', z1', z2', z3', z4', z5', z6', z7', zf'⟩ := HPZ.out.zs
            clear hlong h0
            generalize (w4.setCell ⟨ob, 1, none⟩ (.slice none 0 0)).setCell ⟨ob, 2, none⟩ (.int .i64 0) = WZ at *
            go_wp2_with fail
            have hbw := HPZ.out.below
            exact bodyPost_ret (v := .tuple #[zeroB, .int .i64 1]) (by simp [results, Tryd.results28, go_sem, *]) rfl ⟨belowAuto, .inl ⟨rfl, HLO.out⟩⟩
        · obtain ⟨m, t1, t2, t3, t4, t5, t6, t7⟩ := exp_tree HF.out HL.out 1 (by decide)
          have HA := Lib.hid hA
          obtain ⟨hd1', hd2', hd3', hd4', hd5', hd6', hd7', hd8', hdf⟩ := hA.cells
          have hzr := hA.at'.size
          have hlo := hA.lo
          have hol := hA.lt
          obtain ⟨W1, hW1⟩ : ∃ W1, W1 = wr.alloc (.cells #[.slice g1 l1 p1, .int .i64 b.t1.root] 25) := ⟨_, rfl⟩
          have hb1 : Below wr.heap.size wr W1 := by rw [hW1]; exact belowAuto
          have k1 : W1.heap[wr.heap.size]? = some (.cells #[.slice g1 l1 p1, .int .i64 b.t1.root] 25) := by rw [hW1]; exact heap_new _ _ rfl
          have hz1 : W1.heap.size = wr.heap.size + 1 := by rw [hW1]; simp
          have HA1 := Lib.hid (hA.later hb1)
          obtain ⟨c0, c1⟩ : W1.cell? ⟨wr.heap.size, 0, none⟩ = some (.slice g1 l1 p1) ∧ W1.cell? ⟨wr.heap.size, 1, none⟩ = some (.int .i64 b.t1.root) := by simp [World.cell?, k1]
          have HALL := Lib.hid (HT1.out W1 HA1.out.at'.below)
          have HTR := Lib.hid (And.intro t1 (And.intro t2 (And.intro t3 (And.intro t4 (And.intro t5 (And.intro t6 t7))))))
          have hit := @idx_tree1 g0 g1 g2 l0 p0 l1 p1 l2 p2 b.t0.root b.t1.root b.t2.root
          clear hA t1 t2 t3 t4 t5 t6 t7
          go_upto_region 14 with (fail)
          rw [← hW1]
          clear hW1 k1
          go_upto_region 15 with ((go_at_call 54; (with_reducible refine HALL.out.mono ?_); rintro e w2 ⟨hb2, -, hok⟩; have hok := hok HTR.out.1; rw [show allR b.t1 0 1099511627776 = some m from HTR.out.2.1] at hok; obtain ⟨v2, rfl, ho2⟩ := hok; obtain ⟨su, sd, rfl⟩ := ho2.isSlice; have HA2 := Lib.hid (HA1.out.later hb2); have hz2 := hb2.size; have HO2 := Lib.hid ho2; have HB2 := Lib.hid hb2; clear hb2 ho2))
          go_upto_region 18 with ((go_at_call 63; (with_reducible refine (delOld_any (time := time) (tb := w.heap.size + 1) HO2.out (by have := HTR.out.2.2.2.2.1; omega) HTR.out.2.2.2.1 (by have h := HA2.out.at'.tm; simp [World.cell?, h]) (by omega) hz2).mono ?_); rintro e w3 ⟨v3, rfl, hb3, ho3⟩; obtain ⟨sv, se, rfl⟩ := ho3.isSlice))
          have hfl : (m.filter (young time)).length ≤ 50000 := Nat.le_trans (List.length_filter_le _ _) HTR.out.2.2.2.2.1
          have HOF := Lib.hid (treeOf_formK (ho3.at (by omega)))
          have HB3 := Lib.hid (HB2.out.trans hb3)
          have HA3 := Lib.hid (HA1.out.later HB3.out)
          have hz3 := hb3.size
          have HLE := Lib.hid (And.intro HTR.out.2.2.1 (And.intro HTR.out.2.2.2.2.2.1 HTR.out.2.2.2.2.2.2))
          obtain ⟨L, hL⟩ : ∃ L, m.filter (young time) = L := ⟨_, rfl⟩
          rw [hL] at HLE HOF ho3 hfl ⊢
          clear hL ho3 hb3 HO2 HTR HB2 c0 c1 hd1' hd2' hd3' hd4' hd5' hd6' hd7' hd8' hdf
          go_upto_region 19 with ((go_at_call 65; (with_reducible refine HOF.out.mono ?_); rintro e w4 ⟨hb4, so, n, c, rt, E2, rfl, hof⟩; have HA4 := Lib.hid (HA3.out.later hb4); have HOK := Lib.hid hof; have HB4 := Lib.hid (Below.trans' hb1 (Below.trans' HB3.out hb4 (by omega)) (by omega)); obtain ⟨x0, x1, x2, x3, x4, x5, x6, x7, xf⟩ := HA4.out.cells; clear hb4 hof))
          clear x0 x1 x2 x3 x4 x5 x6 x7 xf
          by_cases h0 : E2 = 0
          · subst h0
            go_wp2_with fail
            go_roundg (3 - (1 + 1))
            case measure => omega
            case rel =>
              obtain ⟨t', q1, q2⟩ := ofForm_ok HOK.out
              rw [← HLE.out.1] at q2
              exact ⟨1 + 1, by omega, rfl, by go_num, Lib.hid ⟨_, _, _, _, _, _, _, _, _, _, _, _, _, HA.out.step1 HB4.out (by omega) q1 q2⟩⟩
          · have d2 : (E2 != 0) = true := by simp [h0]
            obtain ⟨rfl, rfl, rfl, rfl, rfl, hlong⟩ := ofForm_err (b := b) (time := time) HOK.out h0 (by rw [← HLE.out.1]; exact HLE.out.2.2) (by rw [← HLE.out.1]; exact HLE.out.2.1)
            have HLO := Lib.hid hlong
            have HPZ := Lib.hid ((HA4.out.at'.put hlo (o := 3) (.slice none 0 0)).put hlo (o := 4) (.int .i64 0))
            obtain ⟨z0', z1', z2', z3', z4', z5', z6', z7', zf'⟩ := HPZ.out.zs
            clear hlong h0
            generalize (w4.setCell ⟨ob, 3, none⟩ (.slice none 0 0)).setCell ⟨ob, 4, none⟩ (.int .i64 0) = WZ at *
            go_wp2_with fail
            have hbw := HPZ.out.below
            exact bodyPost_ret (v := .tuple #[zeroB, .int .i64 1]) (by simp [results, Tryd.results28, go_sem, *]) rfl ⟨belowAuto, .inl ⟨rfl, HLO.out⟩⟩
        · obtain ⟨m, t1, t2, t3, t4, t5, t6, t7⟩ := exp_tree HF.out HL.out 2 (by decide)
          have HA := Lib.hid hA
          obtain ⟨hd1', hd2', hd3', hd4', hd5', hd6', hd7', hd8', hdf⟩ := hA.cells
          have hzr := hA.at'.size
          have hlo := hA.lo
          have hol := hA.lt
          obtain ⟨W1, hW1⟩ : ∃ W1, W1 = wr.alloc (.cells #[.slice g2 l2 p2, .int .i64 b.t2.root] 25) := ⟨_, rfl⟩
          have hb1 : Below wr.heap.size wr W1 := by rw [hW1]; exact belowAuto
          have k1 : W1.heap[wr.heap.size]? = some (.cells #[.slice g2 l2 p2, .int .i64 b.t2.root] 25) := by rw [hW1]; exact heap_new _ _ rfl
          have hz1 : W1.heap.size = wr.heap.size + 1 := by rw [hW1]; simp
          have HA1 := Lib.hid (hA.later hb1)
          obtain ⟨c0, c1⟩ : W1.cell? ⟨wr.heap.size, 0, none⟩ = some (.slice g2 l2 p2) ∧ W1.cell? ⟨wr.heap.size, 1, none⟩ = some (.int .i64 b.t2.root) := by simp [World.cell?, k1]
          have HALL := Lib.hid (HT2.out W1 HA1.out.at'.below)
          have HTR := Lib.hid (And.intro t1 (And.intro t2 (And.intro t3 (And.intro t4 (And.intro t5 (And.intro t6 t7))))))
          have hit := @idx_tree2 g0 g1 g2 l0 p0 l1 p1 l2 p2 b.t0.root b.t1.root b.t2.root
          clear hA t1 t2 t3 t4 t5 t6 t7
          go_upto_region 14 with (fail)
          rw [← hW1]
          clear hW1 k1
          go_upto_region 15 with ((go_at_call 54; (with_reducible refine HALL.out.mono ?_); rintro e w2 ⟨hb2, -, hok⟩; have hok := hok HTR.out.1; rw [show allR b.t2 0 1099511627776 = some m from HTR.out.2.1] at hok; obtain ⟨v2, rfl, ho2⟩ := hok; obtain ⟨su, sd, rfl⟩ := ho2.isSlice; have HA2 := Lib.hid (HA1.out.later hb2); have hz2 := hb2.size; have HO2 := Lib.hid ho2; have HB2 := Lib.hid hb2; clear hb2 ho2))
          go_upto_region 18 with ((go_at_call 63; (with_reducible refine (delOld_any (time := time) (tb := w.heap.size + 1) HO2.out (by have := HTR.out.2.2.2.2.1; omega) HTR.out.2.2.2.1 (by have h := HA2.out.at'.tm; simp [World.cell?, h]) (by omega) hz2).mono ?_); rintro e w3 ⟨v3, rfl, hb3, ho3⟩; obtain ⟨sv, se, rfl⟩ := ho3.isSlice))
          have hfl : (m.filter (young time)).length ≤ 50000 := Nat.le_trans (List.length_filter_le _ _) HTR.out.2.2.2.2.1
          have HOF := Lib.hid (treeOf_formK (ho3.at (by omega)))
          have HB3 := Lib.hid (HB2.out.trans hb3)
          have HA3 := Lib.hid (HA1.out.later HB3.out)
          have hz3 := hb3.size
          have HLE := Lib.hid (And.intro HTR.out.2.2.1 (And.intro HTR.out.2.2.2.2.2.1 HTR.out.2.2.2.2.2.2))
          obtain ⟨L, hL⟩ : ∃ L, m.filter (young time) = L := ⟨_, rfl⟩
          rw [hL] at HLE HOF ho3 hfl ⊢
          clear hL ho3 hb3 HO2 HTR HB2 c0 c1 hd1' hd2' hd3' hd4' hd5' hd6' hd7' hd8' hdf
          go_upto_region 19 with ((go_at_call 65; (with_reducible refine HOF.out.mono ?_); rintro e w4 ⟨hb4, so, n, c, rt, E2, rfl, hof⟩; have HA4 := Lib.hid (HA3.out.later hb4); have HOK := Lib.hid hof; have HB4 := Lib.hid (Below.trans' hb1 (Below.trans' HB3.out hb4 (by omega)) (by omega)); obtain ⟨x0, x1, x2, x3, x4, x5, x6, x7, xf⟩ := HA4.out.cells; clear hb4 hof))
          clear x0 x1 x2 x3 x4 x5 x6 x7 xf
          by_cases h0 : E2 = 0
          · subst h0
            go_wp2_with fail
            go_roundg (3 - (2 + 1))
            case measure => omega
            case rel =>
              obtain ⟨t', q1, q2⟩ := ofForm_ok HOK.out
              rw [← HLE.out.1] at q2
              exact ⟨2 + 1, by omega, rfl, by go_num, Lib.hid ⟨_, _, _, _, _, _, _, _, _, _, _, _, _, HA.out.step2 HB4.out (by omega) q1 q2⟩⟩
          · have d2 : (E2 != 0) = true := by simp [h0]
            obtain ⟨rfl, rfl, rfl, rfl, rfl, hlong⟩ := ofForm_err (b := b) (time := time) HOK.out h0 (by rw [← HLE.out.1]; exact HLE.out.2.2) (by rw [← HLE.out.1]; exact HLE.out.2.1)
            have HLO := Lib.hid hlong
            have HPZ := Lib.hid ((HA4.out.at'.put hlo (o := 5) (.slice none 0 0)).put hlo (o := 6) (.int .i64 0))
            obtain ⟨z0', z1', z2', z3', z4', z5', z6', z7', zf'⟩ := HPZ.out.zs
            clear hlong h0
            generalize (w4.setCell ⟨ob, 5, none⟩ (.slice none 0 0)).setCell ⟨ob, 6, none⟩ (.int .i64 0) = WZ at *
            go_wp2_with fail
            have hbw := HPZ.out.below
            exact bodyPost_ret (v := .tuple #[zeroB, .int .i64 1]) (by simp [results, Tryd.results28, go_sem, *]) rfl ⟨belowAuto, .inl ⟨rfl, HLO.out⟩⟩
      · obtain rfl : k = 3 := by omega
        have HA := Lib.hid hA
        obtain ⟨d0, d1, d2, d3, d4, d5, d6, d7, df⟩ := hA.cells
        obtain ⟨z0', z1', z2', z3', z4', z5', z6', z7', zf'⟩ := hA.at'.zs
        have rt : ∀ {so : Option Addr} {n c : Nat} {r : Int} {t : Tr}, TreeAt wr (.agg #[.slice so n c, .int .i64 r]) t → r = t.root := fun {so n c r t} h => by
          obtain ⟨nv, e, -⟩ := h
          have e := congrArg (fun v => match v with | .agg a => a[1]? | _ => none) e
          simpa using e
        obtain ⟨q0, u0⟩ := hA.t0 (by decide)
        obtain ⟨q1, u1⟩ := hA.t1 (by decide)
        obtain ⟨q2, u2⟩ := hA.t2 (by decide)
        have e0 := rt (u0 wr (Kp.refl _ _ _))
        have e1 := rt (u1 wr (Kp.refl _ _ _))
        have e2 := rt (u2 wr (Kp.refl _ _ _))
        subst e0 e1 e2
        have nd : ∀ {w'' : World} {so : Option Addr} {n c : Nat} {t : Tr}, TreeAt w'' (.agg #[.slice so n c, .int .i64 t.root]) t → NodesAt w'' (.slice so n c) t.nodes := fun {w'' so n c t} h => by
          obtain ⟨nv, e, hn⟩ := h
          have e := congrArg (fun v => match v with | .agg a => a[0]? | _ => none) e
          simp at e
          rw [e]; exact hn
        have HB := Lib.hid (show ∀ w'', Kp (w.heap.size + 3) ob wr w'' → BaseAt w'' (.agg (baCells sn b.names.length sc' h0 m0 n0 h1 m1 n1 h2 m2 n2 ⟨b.names, T 0, T 1, T 2, time⟩)) ⟨b.names, T 0, T 1, T 2, time⟩ from fun w'' hk => ⟨_, _, _, _, rfl, HA.out.names w'' hk, nd (u0 w'' hk), nd (u1 w'' hk), nd (u2 w'' hk)⟩)
        have HI := Lib.hid (exp_is (T := T) HF.out (fun k hk m hm => by
          have hx : expM b time k = m.filter (young time) := by unfold expM; rw [hm]
          obtain rfl | rfl | rfl : k = 0 ∨ k = 1 ∨ k = 2 := by omega
          · rw [← hx]; exact q0.knows
          · rw [← hx]; exact q1.knows
          · rw [← hx]; exact q2.knows))
        clear rt nd hA q0 q1 q2 u0 u1 u2
        go_wp2_with fail
        have hbw := HA.out.at'.below
        refine bodyPost_ret (v := .tuple #[.agg #[.slice sn b.names.length sc', .slice h0 m0 n0, .int .i64 (T 0).root, .slice h1 m1 n1, .int .i64 (T 1).root, .slice h2 m2 n2, .int .i64 (T 2).root, .int .i64 time], .int .i64 0]) (by simp [results, Tryd.results28, go_sem, *]) rfl ⟨belowAuto, .inr ⟨⟨b.names, T 0, T 1, T 2, time⟩, sn, sc', h0, m0, n0, h1, m1, n1, h2, m2, n2, rfl, HB.out _ ?_, rfl, rfl, HI.out.1, HI.out.2⟩⟩
        repeat (first | with_reducible exact Kp.refl _ _ _ | with_reducible refine Kp.low ?_ (by omega) _)
end Go.Proofs.YtalnnghnipoogaaDoor

/- base.Expire, at every base and time. -/
namespace Go.Proofs.YtalnnghnipoogaaDoor
open Go.RowKit

theorem baseExpire_any {v : Value} {b : Ba} {time : Int} {w : World} (h : BaseAt w v b) (hst : ∀ s ∈ b.names, s.size ≤ 140737488351232) (hsz : SizesAt w) :
    Calls Tryd.prog 28 #[v, .int .i64 time] w fun x w' => Below w.heap.size w w' ∧
      ((expF b time ≠ 0 ∧ x = .returned (.tuple #[zeroB, .int .i64 (expF b time)])) ∨ (expF b time = 0 ∧ ExpGo b time x w')) := by
  obtain ⟨sa, sc, g0, l0, p0, g1, l1, p1, g2, l2, p2, rfl, -⟩ := h.open
  have er : ∀ {k : Int}, expF b time = k → k ≠ 0 → Calls Tryd.prog 28 #[.agg (baCells sa b.names.length sc g0 l0 p0 g1 l1 p1 g2 l2 p2 b), .int .i64 time] w (fun x w' => Below w.heap.size w w' ∧ x = .returned (.tuple #[zeroB, .int .i64 k])) →
      Calls Tryd.prog 28 #[.agg (baCells sa b.names.length sc g0 l0 p0 g1 l1 p1 g2 l2 p2 b), .int .i64 time] w (fun x w' => Below w.heap.size w w' ∧ ((expF b time ≠ 0 ∧ x = .returned (.tuple #[zeroB, .int .i64 (expF b time)])) ∨ (expF b time = 0 ∧ ExpGo b time x w'))) := fun {k} e hk hc => by
    subst e
    exact hc.mono fun x w' ⟨h1, h2⟩ => ⟨h1, .inl ⟨hk, h2⟩⟩
  by_cases hm : baseMay b = true
  · by_cases h1 : time < 0
    · exact er (by unfold expF; rw [if_neg (by simp [hm]), if_pos (by omega)]) (by decide) (exp_neg h hst hsz hm h1)
    · by_cases h2 : 1048575 < time
      · exact er (by unfold expF; rw [if_neg (by simp [hm]), if_pos (by omega)]) (by decide) (exp_big h hst hsz hm (by omega) h2)
      · by_cases h3 : time % 3600 = 0
        · by_cases h4 : time < b.floor
          · exact er (by unfold expF; rw [if_neg (by simp [hm]), if_neg (by omega), if_neg (by omega), if_pos h4]) (by decide) (exp_floor h hst hsz hm (by omega) (by omega) h3 h4)
          · have h0 : expF b time = 0 := by unfold expF; rw [if_neg (by simp [hm]), if_neg (by omega), if_neg (by omega), if_neg h4]
            exact (exp_go h hst hsz h0).mono fun x w' ⟨h1, h2⟩ => ⟨h1, .inr ⟨h0, h2⟩⟩
        · exact er (by unfold expF; rw [if_neg (by simp [hm]), if_neg (by omega), if_pos h3]) (by decide) (exp_odd h hst hsz hm (by omega) (by omega) h3)
  · have hm : baseMay b = false := by simpa using hm
    exact er (by unfold expF; rw [if_pos hm]) (by decide) (exp_may h hst hsz hm)
end Go.Proofs.YtalnnghnipoogaaDoor
