/- Texts of mine that come as one: RowsK KRowsP KAnyP. -/
import Derived.Test.YtalnnghnipoogaaDoorKE
import Derived.Test.YtalnnghnipoogaaDoorRW
/- What the rows of a series are, where all times are early: plain. -/
namespace Go.Proofs.YtalnnghnipoogaaDoor

def rowsK (L : List Ent) (sz p a z : Int) : List Ent := ((bag (L.map (bucket sz))).filter (inRow p a z)).map rowOf
theorem mem_bucket {L : List Ent} {sz : Int} (hsz : 0 < sz) (hT : ∀ e ∈ L, e.key % 1048576 < 14400) {e : Ent} (he : e ∈ bag (L.map (bucket sz))) : e.key % 1048576 < 14400 ∧ e.key % 1048576 % sz = 0 ∧ ∃ x ∈ L, x.key / 1048576 = e.key / 1048576 ∧ e.key % 1048576 = x.key % 1048576 - x.key % 1048576 % sz := by
  obtain ⟨y, hy | hy, hk⟩ := bag_keys he
  · obtain ⟨x, hx, rfl⟩ := List.mem_map.1 hy
    have ht := hT x hx
    have h0 := Int.emod_nonneg x.key (show (1048576 : Int) ≠ 0 by decide)
    have h1 := Int.emod_nonneg (x.key % 1048576) (show sz ≠ 0 by omega)
    have h2 := mod_le h0 hsz
    have h3 : (bucket sz x).key = x.key - x.key % 1048576 % sz := rfl
    rw [h3] at hk
    have h4 : e.key % 1048576 = x.key % 1048576 - x.key % 1048576 % sz := by omega
    refine ⟨by omega, ?_, x, hx, by omega, h4⟩
    rw [h4, Int.sub_emod, Int.emod_emod_of_dvd _ (Int.dvd_refl sz), Int.sub_self, Int.zero_emod]
  · cases hy
theorem rising_filter_one {M : List Ent} (hr : Rising M) {q : Ent → Bool} {e : Ent} (he : e ∈ M) (hq : q e = true) (h1 : ∀ x ∈ M, q x = true → x.key = e.key) : M.filter q = [e] := by
  induction M with
  | nil => cases he
  | cons y l ih =>
    have hc := List.pairwise_cons.1 hr
    rcases List.mem_cons.1 he with rfl | he'
    · rw [List.filter_cons_of_pos hq]
      congr 1
      refine List.filter_eq_nil_iff.2 fun x hx hqx => ?_
      have := h1 x (by simp [hx]) hqx
      have := hc.1 x hx
      omega
    · have hn : ¬ q y = true := fun hqy => by
        have := h1 y (by simp) hqy
        have := hc.1 e he'
        omega
      rw [List.filter_cons_of_neg hn]
      exact ih hc.2 he' fun x hx => h1 x (by simp [hx])
theorem emod_gap {a b s : Int} (hs : 0 < s) (ha : a % s = 0) (hb : b % s = 0) (h1 : a ≤ b) (h2 : b < a + s) : a = b := by
  have e1 := Int.ediv_mul_add_emod a s
  have e2 := Int.ediv_mul_add_emod b s
  rw [ha] at e1
  rw [hb] at e2
  have h3 : a / s ≤ b / s := Int.ediv_le_ediv hs h1
  rcases Int.lt_or_eq_of_le h3 with h | h
  · have : (a / s + 1) * s ≤ b / s * s := Int.mul_le_mul_of_nonneg_right (by omega) (by omega)
    rw [Int.add_mul] at this
    omega
  · rw [h] at e1; omega
section
variable {b : Ba} {L : List Ent} {N : Nat}
theorem Kn.row (h : Kn b L N) (hN : N ≤ 1000000) {k : Nat} (hk : k < 3) (hT : ∀ e ∈ L, e.key % 1048576 < 14400) {p : Int} {x : Ent} (hx : x ∈ rowsK L (szOf k) p 0 1048575) :
    0 ≤ x.key ∧ x.key < 14400 ∧ x.key % szOf k = 0 ∧ x.is.c ≠ 0 ∧ x.is = ptsT L p x.key (x.key + szOf k) := by
  obtain ⟨e, he, rfl⟩ := List.mem_map.1 hx
  obtain ⟨he, hp⟩ := List.mem_filter.1 he
  obtain ⟨h1, h2, -⟩ := mem_bucket (szOf_pos k) hT he
  have h0 := Int.emod_nonneg e.key (show (1048576 : Int) ≠ 0 by decide)
  have hg := h.goods.2
  have hb := (bucket_good (szOf_pos k) hg).1.goods
  have hge := bag_goods hb e he
  have hpk : e.key / 1048576 = p := by
    unfold inRow at hp
    simp only [Bool.and_eq_true, decide_eq_true_eq] at hp
    exact hp.1
  have hs : szOf k ≤ 3600 := by
    obtain rfl | rfl | rfl : k = 0 ∨ k = 1 ∨ k = 2 := by omega
    all_goals decide
  have hsp := szOf_pos k
  refine ⟨h0, h1, h2, ?_, ?_⟩
  · have := hge.1
    show e.is.c ≠ 0
    omega
  show e.is = ptsT L p (e.key % 1048576) (e.key % 1048576 + szOf k)
  rw [← ptsT_bucket hg (h.rolled hN hk) h0 (by omega) h2 (by rw [Int.add_emod, h2, Int.emod_self]; rfl)]
  rw [rising_filter_one (bag_rising hb) he (by unfold inRange; simp; omega) fun y hy hq => ?_]
  · exact (join_zero e.is).symm
  · obtain ⟨y1, y2, -⟩ := mem_bucket (szOf_pos k) hT hy
    unfold inRange at hq
    simp only [Bool.and_eq_true, decide_eq_true_eq] at hq
    have := emod_gap hsp h2 y2 (by omega) (by omega)
    omega
theorem rows_rising {M : List Ent} (hr : Rising M) (p a z : Int) : Rising ((M.filter (inRow p a z)).map rowOf) := by
  refine List.pairwise_map.2 ?_
  refine List.Pairwise.imp_of_mem (fun {x y} hx hy hxy => ?_) (rising_filter hr _)
  have h1 := (List.mem_filter.1 hx).2
  have h2 := (List.mem_filter.1 hy).2
  unfold inRow at h1 h2
  simp only [Bool.and_eq_true, decide_eq_true_eq] at h1 h2
  show x.key % 1048576 < y.key % 1048576
  omega
theorem Kn.rowsRising (h : Kn b L N) {k : Nat} (p a z : Int) : Rising (rowsK L (szOf k) p a z) :=
  rows_rising (bag_rising (bucket_good (szOf_pos k) h.goods.2).1.goods) p a z
theorem Kn.rowsAll (h : Kn b L N) (hN : N ≤ 1000000) {k : Nat} (hk : k < 3) (hT : ∀ e ∈ L, e.key % 1048576 < 14400) (p : Int) : joinAll (rowsK L (szOf k) p 0 1048575) = ptsT L p 0 14400 := by
  have h3 : (14400 : Int) % szOf k = 0 := by
    obtain rfl | rfl | rfl : k = 0 ∨ k = 1 ∨ k = 2 := by omega
    all_goals decide
  rw [← ptsT_bucket h.goods.2 (h.rolled hN hk) (by decide) (by decide) (by simp) h3]
  unfold rowsK
  rw [joinAll_map (f := rowOf) fun _ => rfl]
  congr 1
  refine List.filter_congr fun e he => ?_
  obtain ⟨h1, -⟩ := mem_bucket (szOf_pos k) hT he
  unfold inRow inRange inR
  rw [Bool.eq_iff_iff]
  simp only [Bool.and_eq_true, decide_eq_true_eq]
  omega
theorem ptsT_late {L : List Ent} (hT : ∀ e ∈ L, e.key % 1048576 < 14400) (p a : Int) (_ha : 0 ≤ a) : ptsT L p a 14400 = ptsT L p a 1048576 := by
  unfold ptsT
  congr 1
  refine List.filter_congr fun e he => ?_
  have h1 := hT e he
  unfold inRange
  rw [Bool.eq_iff_iff]
  simp only [Bool.and_eq_true, decide_eq_true_eq]
  omega
end
end Go.Proofs.YtalnnghnipoogaaDoor

/- What a base tells in rows and totals of the points that it is: plain. -/
namespace Go.Proofs.YtalnnghnipoogaaDoor

theorem kb_early {pts : List Pnt} {b : Ba} (_h : KB pts b) (hp : ∀ p ∈ pts, PtEarly p) : ∀ e ∈ bag (pts.map (entP b.names)), e.key % 1048576 < 14400 := fun e he => by
  obtain ⟨y, hy | hy, hk⟩ := bag_keys he
  · obtain ⟨p, hpp, rfl⟩ := List.mem_map.1 hy
    obtain ⟨⟨h1, h2, -⟩, h3⟩ := hp p hpp
    rw [← hk]
    have : (entP b.names p).key = placeI b.names p.s * 1048576 + p.t := rfl
    omega
  · cases hy
theorem ptsT_known' {pts : List Pnt} {b : Ba} {s : ByteArray} {a z : Int} (h : KB pts b) (hs : s ∈ b.names) (hp : ∀ p ∈ pts, PtOk p) (ha : 0 ≤ a) (hz : z ≤ 1048576) : ptsT (bag (pts.map (entP b.names))) (placeI b.names s) a z = knownF pts s a (z - 1) := by
  have := ptsT_known (a := a) (z := z - 1) h hs hp ha (by omega)
  rw [← this]; congr 1; omega
theorem kb_total {pts : List Pnt} {b : Ba} {s : ByteArray} {a z : Int} (h : KB pts b) (hl : pts.length ≤ 100000) (hs : s ∈ b.names) (hp : ∀ p ∈ pts, PtOk p) (hr : rowsOk a z) : totalE b s a z = 0 ∧ totalR b s a z = knownF pts s a z := by
  obtain ⟨h1, h2⟩ := h.st.kn.total (by omega) (place_nonneg.2 hs) hr
  exact ⟨h1, h2.trans (ptsT_known h hs hp hr.1 hr.2.2)⟩
theorem kb_none {pts : List Pnt} {b : Ba} {s : ByteArray} {a z : Int} (h : KB pts b) (hs : s ∉ b.names) : totalE b s a z = 6 ∧ totalR b s a z = Roll.zero := by
  have h1 : seriesE b s = 6 := by
    rcases h.st.kn.series s with h1 | h1
    · exact h1.2
    · exact absurd (place_nonneg.1 h1.1) hs
  unfold totalE totalR
  rw [if_pos (by omega), if_pos (by omega)]
  exact ⟨h1, rfl⟩
theorem kb_rows_none {pts : List Pnt} {b : Ba} {s : ByteArray} {n a z : Int} (h : KB pts b) (hs : s ∉ b.names) : rowsE b s n a z = 6 ∧ rowsR b s n a z = [] := by
  have h1 : seriesE b s = 6 := by
    rcases h.st.kn.series s with h1 | h1
    · exact h1.2
    · exact absurd (place_nonneg.1 h1.1) hs
  have h2 := rowsE_series (n := n) (a := a) (z := z) (show seriesE b s ≠ 0 by omega)
  exact ⟨h2.1.trans h1, h2.2⟩
theorem kb_series {pts : List Pnt} {b : Ba} {s : ByteArray} (h : KB pts b) (hs : s ∈ b.names) : seriesE b s = 0 := by
  rcases h.st.kn.series s with h1 | h1
  · have := place_nonneg.2 hs; omega
  · exact h1.2
structure RowsAre (pts : List Pnt) (s : ByteArray) (sz : Int) (R : List Ent) : Prop where
  len : R.length ≤ 500
  rising : Rising R
  each : ∀ x ∈ R, 0 ≤ x.key ∧ x.key < 14400 ∧ x.key % sz = 0 ∧ x.is.c ≠ 0 ∧ x.is = knownF pts s x.key (x.key + sz - 1)
  all : allC R = (knownF pts s 0 1048575).c
  cpos : ∀ x ∈ R, 0 ≤ x.is.c
theorem kb_rows {pts : List Pnt} {b : Ba} {s : ByteArray} (h : KB pts b) (hl : pts.length ≤ 500) (hs : s ∈ b.names) (hp : ∀ p ∈ pts, PtEarly p) {k : Nat} (hk : k < 3) :
    rowsE b s (szOf k) 0 1048575 = 0 ∧ RowsAre pts s (szOf k) (rowsR b s (szOf k) 0 1048575) := by
  obtain ⟨h1, h2⟩ := h.st.kn.rows hl (place_nonneg.2 hs) hk (show rowsOk 0 1048575 by unfold rowsOk; omega)
  have hT := kb_early h hp
  have hpo : ∀ p ∈ pts, PtOk p := fun p hpp => (hp p hpp).1
  have hs3 : szOf k ≤ 3600 := by
    obtain rfl | rfl | rfl : k = 0 ∨ k = 1 ∨ k = 2 := by omega
    all_goals decide
  refine ⟨h1, ?_⟩
  rw [h2]
  have hrow := fun x hx => h.st.kn.row (by omega) hk hT (p := placeI b.names s) (x := x) hx
  refine ⟨?_, h.st.kn.rowsRising _ _ _, fun x hx => ?_, ?_, fun x hx => ?_⟩
  · rw [List.length_map]
    have g1 := List.length_filter_le (inRow (placeI b.names s) 0 1048575) (bag ((bag (pts.map (entP b.names))).map (bucket (szOf k))))
    have g2 := @bagQ_len ((bag (pts.map (entP b.names))).map (bucket (szOf k))) []
    have g3 := h.st.kn.len
    rw [List.length_map] at g2
    simp only [List.length_nil, Nat.zero_add] at g2
    unfold bag at g1 g2 g3 ⊢
    omega
  · obtain ⟨g1, g2, g3, g4, g5⟩ := hrow x hx
    exact ⟨g1, g2, g3, g4, g5.trans (ptsT_known' h hs hpo g1 (by omega))⟩
  · have g := h.st.kn.rowsAll (by omega) hk hT (placeI b.names s)
    rw [ptsT_late hT _ _ (by decide), ptsT_known' h hs hpo (by decide) (by decide)] at g
    rw [← joinAll_c]
    exact congrArg Roll.c g
  · obtain ⟨e, he, rfl⟩ := List.mem_map.1 hx
    have hb := (bucket_good (szOf_pos k) h.st.goods.2).1.goods
    have := (bag_goods hb e (List.mem_filter.1 he).1).1
    show 0 ≤ e.is.c
    omega
end Go.Proofs.YtalnnghnipoogaaDoor

/- Two bases of the same points in another order: plain. -/
namespace Go.Proofs.YtalnnghnipoogaaDoor

theorem told_same {x y : Ba} (hx : baseMay x = true) (hy : baseMay y = true) (hn : x.names = y.names) (hb : bookR x = bookR y) (s : ByteArray) (n a z : Int) :
    seriesE x s = seriesE y s ∧ totalE x s a z = totalE y s a z ∧ totalR x s a z = totalR y s a z ∧ rowsE x s n a z = rowsE y s n a z ∧ rowsR x s n a z = rowsR y s n a z := by
  have h1 : seriesE x s = seriesE y s := by unfold seriesE; rw [hx, hy, hn]
  have h2 : rowsL x s n a z = rowsL y s n a z := by unfold rowsL; rw [hn, hb]
  have h3 : rowsE x s n a z = rowsE y s n a z := by unfold rowsE; rw [h1, h2]
  refine ⟨h1, ?_, ?_, h3, ?_⟩
  · unfold totalE; rw [h1, hn, hb]
  · unfold totalR; rw [h1, hn, hb]
  · unfold rowsR; rw [h3, h2]
def oneB : ByteArray := ⟨#[111, 110, 101]⟩
def asOne (p : Pnt) : Pnt := ⟨oneB, p.t, p.v⟩
theorem oneB_may : nameMay oneB = true ∧ oneB.size ≤ 10 := ⟨by decide, by decide⟩
theorem fold_one {o : ByteArray} : ∀ {xs : List ByteArray}, (∀ s ∈ xs, s = o) → xs.foldl withName [o] = [o]
  | [], _ => rfl
  | s :: xs, h => by
    have hs := h s (by simp)
    subst hs
    rw [List.foldl_cons, withName_in (by simp)]
    exact fold_one fun x hx => h x (by simp [hx])
theorem fold_ones {o : ByteArray} {xs : List ByteArray} (h : ∀ s ∈ xs, s = o) : xs.foldl withName [] = if xs = [] then [] else [o] := by
  cases xs with
  | nil => rfl
  | cons s xs =>
    have hs := h s (by simp)
    subst hs
    rw [List.foldl_cons, withName_out (by simp), if_neg (by simp)]
    exact fold_one fun x hx => h x (by simp [hx])
theorem kb_one_names {ps : List Pnt} {b : Ba} (h : KB (ps.map asOne) b) : b.names = if ps = [] then [] else [oneB] := by
  rw [h.names, fold_ones (o := oneB) fun s hs => by
    obtain ⟨p, hp, rfl⟩ := List.mem_map.1 hs
    obtain ⟨q, -, rfl⟩ := List.mem_map.1 hp
    rfl]
  simp
theorem kb_any {ps : List Pnt} {x y : Ba} (hx : KB (ps.map asOne) x) (hy : KB (ps.reverse.map asOne) y) (hp : ∀ p ∈ ps, PtOk p) : x.names = y.names ∧ bookR x = bookR y := by
  have hn : x.names = y.names := by
    rw [kb_one_names hx, kb_one_names hy]; simp
  refine ⟨hn, ?_⟩
  rw [hx.st.book, hy.st.book, ← hn]
  congr 1
  refine bag_perm ?_ fun e he => ?_
  · exact (((List.reverse_perm ps).symm.map asOne).map (entP x.names))
  · obtain ⟨q, hq, rfl⟩ := List.mem_map.1 he
    obtain ⟨p, hpp, rfl⟩ := List.mem_map.1 hq
    exact (good_check (rollP_check (p := asOne p) (hp p hpp)) (by show (1 : Int) ≠ 0; decide)).1
theorem kb_any_series {ps : List Pnt} {x : Ba} (hx : KB (ps.map asOne) x) : seriesE x oneB = if ps = [] then 6 else 0 := by
  by_cases h : ps = []
  · rw [if_pos h]
    have h1 := kb_one_names hx
    rw [if_pos h] at h1
    rcases hx.st.kn.series oneB with h2 | h2
    · exact h2.2
    · have := place_nonneg.1 h2.1
      rw [h1] at this
      cases this
  · rw [if_neg h]
    have h1 := kb_one_names hx
    rw [if_neg h] at h1
    exact kb_series hx (by rw [h1]; simp)
end Go.Proofs.YtalnnghnipoogaaDoor
