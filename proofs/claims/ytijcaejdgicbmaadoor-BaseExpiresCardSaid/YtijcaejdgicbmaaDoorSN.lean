/- Texts of mine that come as one: Same NodeGet. -/
import Derived.Test.YtijcaejdgicbmaaDoorNG
import Derived.Test.YtijcaejdgicbmaaDoorEnts
import Derived.Test.YtijcaejdgicbmaaDoorPA
/- The walk of sameTree, of two trees that are the same. -/
namespace Go.Proofs.YtijcaejdgicbmaaDoor
open Go.RowKit

theorem raw_cells2 {w wr : World} {b off k : Nat} {xs : List Raw} (hb : Below w.heap.size w wr) (hbb : b < w.heap.size)
    (h : ∀ i x, xs[i]? = some x → ∀ j u, (enRaw x)[j]? = some u → w.cell? ⟨b, off + i * 5 + j, none⟩ = some u) {r : Raw} (hk : xs[k]? = some r) :
    wr.cell? ⟨b, off + k * 5, none⟩ = some (.bool r.leaf) ∧ wr.cell? ⟨b, off + k * 5 + 1, none⟩ = some r.ev ∧ wr.cell? ⟨b, off + k * 5 + 2, none⟩ = some r.kv ∧ wr.cell? ⟨b, off + k * 5 + 3, none⟩ = some r.dv ∧ wr.cell? ⟨b, off + k * 5 + 4, none⟩ = some r.bv := by
  have g : ∀ j u, (enRaw r)[j]? = some u → wr.cell? ⟨b, off + k * 5 + j, none⟩ = some u := fun j u hu =>
    (hb.cell (p := ⟨b, _, none⟩) hbb).trans (h k r hk j u hu)
  exact ⟨by simpa using g 0 _ rfl, g 1 _ rfl, g 2 _ rfl, g 3 _ rfl, g 4 _ rfl⟩

theorem same_ents {va vb : Value} {xs : List Ent} {w w' : World} (ha : EntsAt w va xs) (hb : EntsAt w vb xs) (h : Below w.heap.size w w') :
    Calls Tryd.prog 81 #[va, vb] w' fun e w2 => e = .returned (.bool true) ∧ Below w'.heap.size w' w2 ∧ Below w.heap.size w w2 :=
  (lawSameEntries_any (ha.below h (Nat.le_refl _)) (hb.below h (Nat.le_refl _))).mono fun e w2 ⟨e1, b⟩ => ⟨by simpa using e1, b, Below.trans' h b h.size⟩
theorem same_ints {va vb : Value} {xs : List Int} {w w' : World} (ha : IntsAt w va xs) (hb : IntsAt w vb xs) (h : Below w.heap.size w w') :
    Calls Tryd.prog 82 #[va, vb] w' fun e w2 => e = .returned (.bool true) ∧ Below w'.heap.size w' w2 ∧ Below w.heap.size w w2 :=
  (lawSameInts_any (ha.below h (Nat.le_refl _)) (hb.below h (Nat.le_refl _))).mono fun e w2 ⟨e1, b⟩ => ⟨by simpa using e1, b, Below.trans' h b h.size⟩

set_option maxRecDepth 100000 in
set_option maxHeartbeats 4000000 in
theorem sameTree_refl {na nb : Value} {r0 : Int} {xs : List Nd} {w : World} (ha : NodesAt w na xs) (hb : NodesAt w nb xs) :
    Calls Tryd.prog 62 #[.agg #[na, .int .i64 r0], .agg #[nb, .int .i64 r0]] w fun e w' => e = .returned (.bool true) ∧ Below w.heap.size w w' := by
  obtain ⟨rs, ⟨ao, ca, rfl, a1, a2, a3, a4, a5⟩, ra, rn⟩ := ha
  obtain ⟨ss, ⟨bo, cb, rfl, b1, b2, b3, b4, b5⟩, sa, sn⟩ := hb
  have hl : ss.length = rs.length := by omega
  have RA := Lib.hid ra
  have SA := Lib.hid sa
  rw [hl]
  rw [hl] at b1 b3 b5
  clear ra sa hl
  go_enter Tryd.func62, Tryd.ntmps62
  go_wp2_with fail
  go_loopg [5] rs.length (fun g i wr => ∃ k : Nat, k ≤ rs.length ∧ g = rs.length - k ∧ i = .int .i64 k ∧ Below w.heap.size w wr ∧ w.heap.size + 2 ≤ wr.heap.size ∧
    wr.cell? ⟨w.heap.size, 0, none⟩ = some (.slice ao rs.length ca) ∧ wr.cell? ⟨w.heap.size + 1, 0, none⟩ = some (.slice bo rs.length cb))
  case atStart => exact ⟨0, Nat.zero_le _, rfl, rfl, (by repeat (first | exact Below.refl _ _ | assumption | refine below_dn ?_ _ | refine Below.drew ?_ | refine Below.alloc ?_ (by simp <;> omega) _ | refine Below.setCell ?_ (by simp <;> omega) _)), by simp, by go_simp, by go_simp⟩
  case round =>
    obtain ⟨k, hk, rfl, rfl, hbw, hsz, c0, c1⟩ := hrel
    by_cases hlt : k < rs.length
    · obtain ⟨ab, aoff, rfl, abb, ac⟩ := a5 (by omega)
      obtain ⟨bb, boff, rfl, bbb, bc⟩ := b5 (by omega)
      obtain ⟨r, hr⟩ : ∃ r, rs[k]? = some r := ⟨rs[k], by simp [hlt]⟩
      obtain ⟨s, hs⟩ : ∃ s, ss[k]? = some s := ⟨ss[k]'(by have := SA.out; have := RA.out; omega), by simp⟩
      obtain ⟨x, hx⟩ : ∃ x, xs[k]? = some x := ⟨xs[k]'(by have := RA.out; omega), by simp⟩
      obtain ⟨p0, p1, p2, p3, p4⟩ := raw_cells2 hbw abb ac hr
      obtain ⟨q0, q1, q2, q3, q4⟩ := raw_cells2 hbw bbb bc hs
      obtain ⟨rl, rE, rK, rD, rB⟩ := rn k r x hr hx
      obtain ⟨sl, sE, sK, sD, sB⟩ := sn k s x hs hx
      have hcE : ∀ w' va vb, (va = r.ev ∧ vb = s.ev) ∨ (va = r.bv ∧ vb = s.bv) → Below w.heap.size w w' → Calls Tryd.prog 81 #[va, vb] w' fun e w2 => e = .returned (.bool true) ∧ Below w'.heap.size w' w2 ∧ Below w.heap.size w w2 := by
        rintro w' va vb (⟨rfl, rfl⟩ | ⟨rfl, rfl⟩) h
        · exact same_ents rE sE h
        · exact same_ents rB sB h
      have hcK : ∀ w' va vb, (va = r.kv ∧ vb = s.kv) ∨ (va = r.dv ∧ vb = s.dv) → Below w.heap.size w w' → Calls Tryd.prog 82 #[va, vb] w' fun e w2 => e = .returned (.bool true) ∧ Below w'.heap.size w' w2 ∧ Below w.heap.size w w2 := by
        rintro w' va vb (⟨rfl, rfl⟩ | ⟨rfl, rfl⟩) h
        · exact same_ints rK sK h
        · exact same_ints rD sD h
      obtain ⟨f1, g1, h1⟩ := rE.isSlice
      obtain ⟨f2, g2, h2⟩ := rK.isSlice
      obtain ⟨f3, g3, h3⟩ := rD.isSlice
      obtain ⟨f4, g4, h4⟩ := rB.isSlice
      obtain ⟨f5, g5, h5⟩ := sE.isSlice
      obtain ⟨f6, g6, h6⟩ := sK.isSlice
      obtain ⟨f7, g7, h7⟩ := sD.isSlice
      obtain ⟨f8, g8, h8⟩ := sB.isSlice
      rw [h1] at p1 hcE; rw [h2] at p2 hcK; rw [h3] at p3 hcK; rw [h4] at p4 hcE; rw [h5] at q1 hcE; rw [h6] at q2 hcK; rw [h7] at q3 hcK; rw [h8] at q4 hcE
      have hcE := Lib.hid hcE
      have hcK := Lib.hid hcK
      rw [rl] at p0; rw [sl] at q0
      clear ac bc a5 b5 rn sn rE rK rD rB sE sK sD sB h1 h2 h3 h4 h5 h6 h7 h8 rl sl hr hs hx
      have h01 : w.heap.size < wr.heap.size := by omega
      have h02 : w.heap.size + 1 < wr.heap.size := by omega
      have h03 : wr.heap.size ≠ w.heap.size := by omega
      have h04 : wr.heap.size ≠ w.heap.size + 1 := by omega
      have h05 : w.heap.size ≠ wr.heap.size := by omega
      have h06 : w.heap.size + 1 ≠ wr.heap.size := by omega
      have h07 : wr.heap.size ≠ bb := by omega
      have h08 : bb ≠ wr.heap.size := by omega
      have h09 : bb < wr.heap.size := by omega
      go_wp2_with (first
        | (go_at_call 81; refine (hcE.out _ _ _ ?_ ?_).mono ?_; (first | exact .inl ⟨rfl, rfl⟩ | exact .inr ⟨rfl, rfl⟩); (exact (by repeat (first | exact Below.refl _ _ | assumption | refine below_dn ?_ _ | refine Below.drew ?_ | refine Below.alloc ?_ (by first | omega | (simp; done) | (simp; omega)) _ | refine Below.setCell ?_ (by first | omega | (simp; done) | (simp; omega)) _))); rintro e wE ⟨rfl, bE, BE⟩; obtain ⟨_, _, _⟩ := keep1 bE (B := w.heap.size) (by first | omega | (simp; done) | (simp; omega)); obtain ⟨_, _, _⟩ := keep1 bE (B := w.heap.size + 1) (by first | omega | (simp; done) | (simp; omega)); obtain ⟨_, _, _⟩ := keep1 bE (B := wr.heap.size) (by first | omega | (simp; done) | (simp; omega)); obtain ⟨_, _, _⟩ := keep1 bE (B := wr.heap.size + 1) (by first | omega | (simp; done) | (simp; omega)))
        | (go_at_call 82; refine (hcK.out _ _ _ ?_ ?_).mono ?_; (first | exact .inl ⟨rfl, rfl⟩ | exact .inr ⟨rfl, rfl⟩); (exact (by repeat (first | exact Below.refl _ _ | assumption | refine below_dn ?_ _ | refine Below.drew ?_ | refine Below.alloc ?_ (by first | omega | (simp; done) | (simp; omega)) _ | refine Below.setCell ?_ (by first | omega | (simp; done) | (simp; omega)) _))); rintro e wE ⟨rfl, bE, BE⟩; obtain ⟨_, _, _⟩ := keep1 bE (B := w.heap.size) (by first | omega | (simp; done) | (simp; omega)); obtain ⟨_, _, _⟩ := keep1 bE (B := w.heap.size + 1) (by first | omega | (simp; done) | (simp; omega)); obtain ⟨_, _, _⟩ := keep1 bE (B := wr.heap.size) (by first | omega | (simp; done) | (simp; omega)); obtain ⟨_, _, _⟩ := keep1 bE (B := wr.heap.size + 1) (by first | omega | (simp; done) | (simp; omega))))
      go_roundg (rs.length - (k + 1))
      case measure => omega
      case rel => exact ⟨k + 1, by omega, rfl, by go_num, (by repeat (first | exact Below.refl _ _ | assumption | refine below_dn ?_ _ | refine Below.drew ?_ | refine Below.alloc ?_ (by first | omega | (simp; done) | (simp; omega)) _ | refine Below.setCell ?_ (by first | omega | (simp; done) | (simp; omega)) _)), by omega, by go_simp, by go_simp⟩
    · go_wp2
      go_ret
      exact ⟨rfl, (by repeat (first | exact Below.refl _ _ | assumption | refine below_dn ?_ _ | refine Below.drew ?_ | refine Below.alloc ?_ (by simp <;> omega) _ | refine Below.setCell ?_ (by simp <;> omega) _))⟩
end Go.Proofs.YtijcaejdgicbmaaDoor

/- A node of a tree in memory, and what its slices hold, cell by cell. -/
namespace Go.Proofs.YtijcaejdgicbmaaDoor
open Go.RowKit

theorem idx_node {ab aoff n cap j : Nat} {i : Int} (h : i = j) (hj : j < n) (w : World) : (Instr.indexAt 23 (.slice (some ⟨ab, aoff, none⟩) n cap) (.int .i64 i)).run Tryd.prog w = .ok (.pointer (some ⟨ab, aoff + j * 5, none⟩)) w := by
  subst h
  go_simp
theorem idx_int {ab aoff n cap j : Nat} {i : Int} (h : i = j) (hj : j < n) (w : World) : (Instr.indexAt 77 (.slice (some ⟨ab, aoff, none⟩) n cap) (.int .i64 i)).run Tryd.prog w = .ok (.pointer (some ⟨ab, aoff + j, none⟩)) w := by
  subst h
  go_simp
theorem idx_ents {ab aoff n cap j : Nat} {i : Int} (h : i = j) (hj : j < n) (w : World) : (Instr.indexAt 50 (.slice (some ⟨ab, aoff, none⟩) n cap) (.int .i64 i)).run Tryd.prog w = .ok (.pointer (some ⟨ab, aoff + j * 7, none⟩)) w := by
  subst h
  go_simp

/-- Node i of nodes in memory. -/
theorem NodesAt.get {w : World} {nv : Value} {xs : List Nd} (h : NodesAt w nv xs) {i : Nat} {x : Nd} (hi : xs[i]? = some x) :
    ∃ nb noff cap r, nv = .slice (some ⟨nb, noff, none⟩) xs.length cap ∧ nb < w.heap.size ∧ NodeAt w r x ∧
      w.cell? ⟨nb, noff + i * 5, none⟩ = some (.bool r.leaf) ∧ w.cell? ⟨nb, noff + i * 5 + 1, none⟩ = some r.ev ∧ w.cell? ⟨nb, noff + i * 5 + 2, none⟩ = some r.kv ∧ w.cell? ⟨nb, noff + i * 5 + 3, none⟩ = some r.dv ∧ w.cell? ⟨nb, noff + i * 5 + 4, none⟩ = some r.bv := by
  obtain ⟨rs, ⟨ao, cap, rfl, h1, h2, h3, h4, h5⟩, hl, hn⟩ := h
  have hix := (List.getElem?_eq_some_iff.1 hi).1
  obtain ⟨nb, noff, rfl, hb, hc⟩ := h5 (by omega)
  have hr : rs[i]? = some (rs[i]'(by omega)) := by simp
  have g := hc i _ hr
  exact ⟨nb, noff, cap, rs[i]'(by omega), by rw [hl], hb, hn i _ x hr hi, by simpa using g 0 _ rfl, g 1 _ rfl, g 2 _ rfl, g 3 _ rfl, g 4 _ rfl⟩
theorem NodesAt.len {w : World} {nv : Value} {xs : List Nd} (h : NodesAt w nv xs) : (∃ ao cap, nv = .slice ao xs.length cap) ∧ xs.length ≤ 9223372036854775806 := by
  obtain ⟨rs, hs, hl, hn⟩ := h
  obtain ⟨ao, cap, rfl⟩ := hs.isSlice
  refine ⟨⟨ao, cap, by rw [hl]⟩, ?_⟩
  obtain ⟨_, _, _, _, _, h, _⟩ := hs
  omega
theorem IntsAt.get {w : World} {v : Value} {xs : List Int} (h : IntsAt w v xs) {i : Nat} {x : Int} (hi : xs[i]? = some x) :
    ∃ b off cap, v = .slice (some ⟨b, off, none⟩) xs.length cap ∧ b < w.heap.size ∧ w.cell? ⟨b, off + i, none⟩ = some (.int .i64 x) := by
  obtain ⟨ao, cap, rfl, h1, h2, h3, h4, h5⟩ := h
  have hix := (List.getElem?_eq_some_iff.1 hi).1
  obtain ⟨nb, noff, rfl, hb, hc⟩ := h5 (by omega)
  exact ⟨nb, noff, cap, rfl, hb, by simpa using hc i x hi 0 _ rfl⟩
theorem SlAt.len {α : Type} {k sz : Nat} {en : α → List Value} {w : World} {v : Value} {xs : List α} (h : SlAt k sz en w v xs) (hsz : 0 < sz) : xs.length ≤ 140737488351232 := by
  obtain ⟨ao, cap, rfl, h1, h2, h3, h4, h5⟩ := h
  have : xs.length * 1 ≤ xs.length * sz := Nat.mul_le_mul_left _ hsz
  omega
theorem at?_get {t : Tr} {n : Int} {x : Nd} (h : t.at? n = some x) : 0 ≤ n ∧ n.toNat < t.nodes.length ∧ t.nodes[n.toNat]? = some x := by
  unfold Tr.at? at h
  split at h
  · exact ⟨‹_›, (List.getElem?_eq_some_iff.1 h).1, h⟩
  · cases h
theorem at?_none {t : Tr} {n : Int} (h : t.at? n = none) : n < 0 ∨ (t.nodes.length : Int) ≤ n := by
  unfold Tr.at? at h
  split at h
  · have := List.getElem?_eq_none_iff.1 h; omega
  · omega
end Go.Proofs.YtijcaejdgicbmaaDoor
