/- Texts of mine that come as one: Book BaseMay BaseIs. -/
import Derived.Test.YtijcaejdgicbmaaDoorRolled
import Derived.Test.YtijcaejdgicbmaaDoorAllOf
import Derived.Test.YtijcaejdgicbmaaDoorCP
import Derived.BigQuiet
import Derived.Deep.QuietTactic
import Derived.Test.YtijcaejdgicbmaaDoorNM
/- The walk of the document's Book: what is known of points. -/
namespace Go.Proofs.YtijcaejdgicbmaaDoor
open Go.RowKit

theorem AllPost.allT {B : Nat} {w : World} {t : Tr} {e : Ending} {w' : World} (h : AllPost B w (treeFault t) (allR t 0 1099511627776) e w') :
    Below B w w' ∧ (match allT t with | none => ∃ E : Int, (E != 0) = true ∧ e = .returned (.tuple #[.slice none 0 0, .int .i64 E]) | some l => ∃ v, e = .returned (.tuple #[v, .int .i64 0]) ∧ OwnEnts B w' v l) := by
  obtain ⟨hb, h1, h2⟩ := h
  refine ⟨hb, ?_⟩
  unfold Go.Proofs.YtijcaejdgicbmaaDoor.allT
  by_cases hf : treeFault t = 0
  · have h3 := h2 hf
    rw [if_pos hf]
    cases hr : allR t 0 1099511627776 with
    | none => rw [hr] at h3; exact ⟨1, rfl, h3⟩
    | some l => rw [hr] at h3; exact h3
  · rw [if_neg hf]; exact ⟨_, by simp [hf], h1 hf⟩
theorem book_ok {b : Ba} {l : List Ent} (h1 : allT b.t0 = some l) (h2 : l.all (bookOk b) = true) : bookR b = some l := by
  unfold bookR; rw [h1]; simp only; rw [if_pos h2]
theorem book_bad {b : Ba} {l : List Ent} {k : Nat} (h1 : allT b.t0 = some l) (hk : k < l.length) (h2 : bookOk b l[k] = false) : bookR b = none := by
  unfold bookR; rw [h1]; simp only; rw [if_neg]
  intro h; have := List.all_eq_true.1 h l[k] (List.getElem_mem hk); rw [h2] at this; cases this
theorem book_none {b : Ba} (h1 : allT b.t0 = none) : bookR b = none := by unfold bookR; rw [h1]
/-- A base's block. -/
abbrev baCells (sa : Option Addr) (sn sc : Nat) (g0 : Option Addr) (l0 p0 : Nat) (g1 : Option Addr) (l1 p1 : Nat) (g2 : Option Addr) (l2 p2 : Nat) (b : Ba) : Array Value :=
  #[.slice sa sn sc, .slice g0 l0 p0, .int .i64 b.t0.root, .slice g1 l1 p1, .int .i64 b.t1.root, .slice g2 l2 p2, .int .i64 b.t2.root, .int .i64 b.floor]
theorem BaseAt.open {w : World} {v : Value} {b : Ba} (h : BaseAt w v b) : ∃ sa sc g0 l0 p0 g1 l1 p1 g2 l2 p2, v = .agg (baCells sa b.names.length sc g0 l0 p0 g1 l1 p1 g2 l2 p2 b) ∧ b.names.length ≤ 8796093022208 ∧ StrsAt w (.slice sa b.names.length sc) b.names ∧
    (∀ w', Below w.heap.size w w' → TreeAt w' (.agg #[.slice g0 l0 p0, .int .i64 b.t0.root]) b.t0) ∧ (∀ w', Below w.heap.size w w' → TreeAt w' (.agg #[.slice g1 l1 p1, .int .i64 b.t1.root]) b.t1) ∧ (∀ w', Below w.heap.size w w' → TreeAt w' (.agg #[.slice g2 l2 p2, .int .i64 b.t2.root]) b.t2) := by
  obtain ⟨nv, a0, a1, a2, rfl, s, n0, n1, n2⟩ := h
  obtain ⟨sa, sc, rfl⟩ := s.isSlice
  obtain ⟨g0, l0, p0, rfl⟩ := nodes_slice n0
  obtain ⟨g1, l1, p1, rfl⟩ := nodes_slice n1
  obtain ⟨g2, l2, p2, rfl⟩ := nodes_slice n2
  obtain ⟨_, _, _, _, _, h6, _⟩ := id s
  exact ⟨sa, sc, g0, l0, p0, g1, l1, p1, g2, l2, p2, rfl, by omega, s, fun w' hb => ⟨_, rfl, n0.below hb (Nat.le_refl _)⟩, fun w' hb => ⟨_, rfl, n1.below hb (Nat.le_refl _)⟩, fun w' hb => ⟨_, rfl, n2.below hb (Nat.le_refl _)⟩⟩

set_option maxRecDepth 100000 in
set_option maxHeartbeats 1000000 in
theorem book_any {v : Value} {b : Ba} {w : World} (h : BaseAt w v b) :
    Calls Tryd.prog 35 #[v] w (RolPost w.heap.size w (bookR b)) := by
  obtain ⟨sa, sc, g0, l0, p0, g1, l1, p1, g2, l2, p2, rfl, hn, _, T0, _, _⟩ := h.open
  obtain ⟨W0, hW0⟩ : ∃ W0, W0 = w.alloc (.cells (baCells sa b.names.length sc g0 l0 p0 g1 l1 p1 g2 l2 p2 b) 28) := ⟨_, rfl⟩
  have hb0 : Below w.heap.size w W0 := by rw [hW0]; exact (by repeat (first | with_reducible exact Below.refl _ _ | with_reducible assumption | with_reducible refine below_dn ?_ _ | with_reducible refine Below.drew ?_ | with_reducible refine Below.alloc ?_ (by first | omega | (simp; done) | (simp; omega) | (simp [drew_size]; done) | (simp [drew_size]; omega)) _ | with_reducible refine Below.setCell ?_ (by first | omega | (simp; done) | (simp; omega) | (simp [drew_size]; done) | (simp [drew_size]; omega)) _))
  have hz0 : W0.heap.size = w.heap.size + 1 := by rw [hW0]; simp
  have k0 : W0.heap[w.heap.size]? = some (.cells (baCells sa b.names.length sc g0 l0 p0 g1 l1 p1 g2 l2 p2 b) 28) := by rw [hW0]; exact heap_new _ _ rfl
  have HX := Lib.hid fun w' (hb : Below W0.heap.size W0 w') => (by
    have b0 : w'.heap[w.heap.size]? = _ := (hb.block _ (by omega)).trans k0
    simp [World.cell?, b0] :
    w'.cell? ⟨w.heap.size, 0, none⟩ = some (.slice sa b.names.length sc) ∧ w'.cell? ⟨w.heap.size, 7, none⟩ = some (.int .i64 b.floor))
  have HB := Lib.hid fun w' (hb : Below W0.heap.size W0 w') => (Below.trans' hb0 hb hb0.size : Below w.heap.size w w')
  have HA := Lib.hid ((allOf_any (lo := 0) (hi := 1099511627776) (T0 W0 hb0)).mono fun e w' hp => AllPost.allT hp)
  obtain ⟨c1, c2⟩ : W0.cell? ⟨w.heap.size, 1, none⟩ = some (.slice g0 l0 p0) ∧ W0.cell? ⟨w.heap.size, 2, none⟩ = some (.int .i64 b.t0.root) := by simp [World.cell?, k0]
  clear T0
  go_enter Tryd.func35, Tryd.ntmps35
  go_upto_region 1 with (fail)
  rw [← hW0]
  clear hW0 k0
  cases hT : allT b.t0 with
  | none =>
    have HN := Lib.hid (book_none hT)
    rw [hT] at HA
    clear hT
    go_wp2_with ((go_at_call 38; (with_reducible refine HA.out.mono ?_); rintro e w1 ⟨hb1, E, hE, rfl⟩; have hbw := HB.out _ hb1))
    go_ret2
    rw [HN.out]
    exact ⟨hbw, rfl⟩
  | some l =>
    have HT := Lib.hid hT
    have HG := Lib.hid (allT_good hT)
    have hlen : l.length ≤ 50000 := (allT_good hT).2.2.2
    rw [hT] at HA
    clear hT
    go_upto_region 4 with ((go_at_call 38; (with_reducible refine HA.out.mono ?_); rintro e w1 ⟨hb1, v1, rfl, ho1⟩; obtain ⟨s1, d1, rfl⟩ := ho1.isSlice))
    have HL := Lib.hid (ho1.at (by omega))
    have HO := Lib.hid ho1
    have hz1 := hb1.size
    clear c1 c2 ho1
    go_wp2_with fail
    go_loopg [6] l.length (fun g i wr => ∃ k : Nat, k ≤ l.length ∧ g = l.length - k ∧ i = .int .i64 k ∧ Hid ((l.take k).all (bookOk b) = true) ∧ Below w1.heap.size w1 wr)
    case atStart => exact ⟨0, Nat.zero_le _, rfl, rfl, Lib.hid rfl, Below.refl _ _⟩
    case round =>
      obtain ⟨k, hk, rfl, rfl, HR, hb⟩ := hrel
      have hsz := hb.size
      have hbB : Below W0.heap.size W0 wr := Below.trans' hb1 hb hz1
      obtain ⟨x0, x7⟩ := HX.out _ hbB
      by_cases hlt : k < l.length
      · obtain ⟨_, _, hv, -, -, -, -, h5⟩ := HL.out
        injection hv with hv1 _ hv3
        subst hv3
        obtain ⟨eb, eoff, hla, heb, hec⟩ := h5 (by omega)
        subst hla
        subst hv1
        obtain ⟨y0, y1, y2, y3, y4, y5, y6⟩ := ent_cells hb heb hec hlt
        obtain ⟨y, hy⟩ : ∃ y, l[k] = y := ⟨_, rfl⟩
        rw [hy] at y0 y1 y2 y3 y4 y5 y6
        have hyl : y ∈ l := by rw [← hy]; exact List.getElem_mem hlt
        obtain ⟨hk0, hk1⟩ := HG.out.2.2.1 y hyl
        have HBAD := Lib.hid fun (h : bookOk b y = false) => book_bad HT.out hlt (by rw [hy]; exact h)
        have HGOOD := Lib.hid fun (h : bookOk b y = true) => (by rw [List.take_succ_eq_append_getElem hlt, List.all_append, HR.out, hy]; simp [h] : (l.take (k + 1)).all (bookOk b) = true)
        obtain ⟨M, hM⟩ : ∃ M, y.key % 1048576 = M := ⟨_, rfl⟩
        obtain ⟨Q, hQ⟩ : ∃ Q, y.key / 1048576 = Q := ⟨_, rfl⟩
        have hM0 : 0 ≤ M ∧ M < 1048576 := by omega
        have hQ0 : 0 ≤ Q ∧ Q < 1048576 := by omega
        have m1 : y.key.tmod 1048576 = M := by rw [Int.tmod_eq_emod_of_nonneg hk0]; exact hM
        have m2 : y.key.tdiv 1048576 = Q := by rw [Int.tdiv_eq_ediv_of_nonneg hk0]; exact hQ
        have m3 : IntKind.i64.wrap M = M := IntWalk.i64_in _ (by omega)
        have m4 : IntKind.i64.wrap Q = Q := IntWalk.i64_in _ (by omega)
        have HOK := Lib.hid (show bookOk b y = (decide (Q < b.names.length) && decide (b.floor ≤ M) && decide (y.is.t = M)) by simp [bookOk, hM, hQ])
        have hix := fun w' => idx_ents (ab := eb) (aoff := eoff) (n := l.length) (cap := d1) (show (k : Int) = ((k : Nat) : Int) by rfl) hlt w'
        have hwz : eb < wr.heap.size := by omega
        have hbN : Below w.heap.size w wr := HB.out _ hbB
        clear hec h5 hy hyl hM hQ hM0 hQ0 hbB
        go_upto_region 8 with (fail)
        by_cases i1 : Q < b.names.length
        · have e1 : decide ((b.names.length : Int) ≤ Q) = false := by simp; omega
          by_cases i2 : b.floor ≤ M
          · have e2 : decide (M < b.floor) = false := by simp; omega
            by_cases i3 : y.is.t = M
            · have e3 : (y.is.t != M) = false := by simp [i3]
              have HGD := Lib.hid (HGOOD.out (by rw [HOK.out]; simp [i1, i2, i3]))
              clear i1 i2 i3 HGOOD HBAD HOK
              go_quiet (fail)
              go_wp2
              go_roundg (l.length - (k + 1))
              case measure => omega
              case rel => exact ⟨k + 1, by omega, rfl, by go_num, HGD, (by repeat (first | with_reducible exact Below.refl _ _ | with_reducible assumption | with_reducible refine below_dn ?_ _ | with_reducible refine Below.drew ?_ | with_reducible refine Below.alloc ?_ (by first | omega | (simp; done) | (simp; omega) | (simp [drew_size]; done) | (simp [drew_size]; omega)) _ | with_reducible refine Below.setCell ?_ (by first | omega | (simp; done) | (simp; omega) | (simp [drew_size]; done) | (simp [drew_size]; omega)) _))⟩
            · have e3 : (y.is.t != M) = true := by simp [i3]
              have HBD := Lib.hid (HBAD.out (by rw [HOK.out]; simp [i3]))
              clear i1 i2 i3 HGOOD HBAD HOK
              go_quiet (fail)
              go_wp2
              go_ret2
              rw [HBD.out]
              exact ⟨(by repeat (first | with_reducible exact Below.refl _ _ | with_reducible assumption | with_reducible refine below_dn ?_ _ | with_reducible refine Below.drew ?_ | with_reducible refine Below.alloc ?_ (by first | omega | (simp; done) | (simp; omega) | (simp [drew_size]; done) | (simp [drew_size]; omega)) _ | with_reducible refine Below.setCell ?_ (by first | omega | (simp; done) | (simp; omega) | (simp [drew_size]; done) | (simp [drew_size]; omega)) _)), rfl⟩
          · have e2 : decide (M < b.floor) = true := by simp; omega
            have HBD := Lib.hid (HBAD.out (by rw [HOK.out]; simp [i2]))
            clear i1 i2 HGOOD HBAD HOK
            go_quiet (fail)
            go_wp2
            go_ret2
            rw [HBD.out]
            exact ⟨(by repeat (first | with_reducible exact Below.refl _ _ | with_reducible assumption | with_reducible refine below_dn ?_ _ | with_reducible refine Below.drew ?_ | with_reducible refine Below.alloc ?_ (by first | omega | (simp; done) | (simp; omega) | (simp [drew_size]; done) | (simp [drew_size]; omega)) _ | with_reducible refine Below.setCell ?_ (by first | omega | (simp; done) | (simp; omega) | (simp [drew_size]; done) | (simp [drew_size]; omega)) _)), rfl⟩
        · have e1 : decide ((b.names.length : Int) ≤ Q) = true := by simp; omega
          have HBD := Lib.hid (HBAD.out (by rw [HOK.out]; simp [i1]))
          clear i1 HGOOD HBAD HOK
          go_quiet (fail)
          go_wp2
          go_ret2
          rw [HBD.out]
          exact ⟨(by repeat (first | with_reducible exact Below.refl _ _ | with_reducible assumption | with_reducible refine below_dn ?_ _ | with_reducible refine Below.drew ?_ | with_reducible refine Below.alloc ?_ (by first | omega | (simp; done) | (simp; omega) | (simp [drew_size]; done) | (simp [drew_size]; omega)) _ | with_reducible refine Below.setCell ?_ (by first | omega | (simp; done) | (simp; omega) | (simp [drew_size]; done) | (simp [drew_size]; omega)) _)), rfl⟩
      · have HN := Lib.hid (book_ok HT.out (by have := HR.out; rw [List.take_of_length_le (by omega)] at this; exact this))
        have hbN : Below w.heap.size w wr := HB.out _ hbB
        have ho := (HO.out.below hb (Nat.le_refl _)).mono (show w.heap.size ≤ W0.heap.size by omega)
        clear hbB
        go_wp2
        go_ret2
        rw [HN.out]
        exact ⟨hbN, _, rfl, ho⟩
end Go.Proofs.YtijcaejdgicbmaaDoor

/- The walk of the document's BaseMay: may a base be? -/
namespace Go.Proofs.YtijcaejdgicbmaaDoor
open Go.RowKit

def NameAt (b : Ba) (i : Nat) : Prop := ∀ h : i < b.names.length, nameMay b.names[i] = true ∧ ∀ k (hk : k < i), b.names[k] ≠ b.names[i]
def NamesOk (b : Ba) : Prop := ∀ i, NameAt b i
/-- May a base be? -/
structure BaseOk (b : Ba) : Prop where
  n16 : b.names.length ≤ 16
  fl0 : 0 ≤ b.floor
  fl1 : b.floor ≤ 1048575
  fl2 : b.floor % 3600 = 0
  names : NamesOk b
  trees : ∃ l, bookR b = some l ∧ ∀ k, k < 3 → treeOk l (b.tree k) (szOf k) = true
open Classical in
noncomputable def baseMay (b : Ba) : Bool := decide (BaseOk b)
theorem baseMay_no {b : Ba} (h : ¬ BaseOk b) : baseMay b = false := by simp [baseMay, h]
theorem baseMay_yes {b : Ba} (h : BaseOk b) : baseMay b = true := by simp [baseMay, h]
theorem baseMay_ok {b : Ba} (h : baseMay b = true) : BaseOk b := by simpa [baseMay] using h
theorem strs_cell {w wr : World} {b off k : Nat} {xs : List ByteArray} (hb : Below w.heap.size w wr) (hbb : b < w.heap.size)
    (hc : ∀ (i : Nat) x, xs[i]? = some x → ∀ j u, (enStr x)[j]? = some u → w.cell? ⟨b, off + i * 1 + j, none⟩ = some u) (hk : k < xs.length) : wr.cell? ⟨b, off + k, none⟩ = some (.string xs[k]) := by
  have := hc k xs[k] (by simp [hk]) 0 _ rfl
  rw [Nat.mul_one, Nat.add_zero] at this
  exact (hb.cell (p := ⟨b, off + k, none⟩) hbb).trans this
theorem idx_str {ab aoff n cap j : Nat} {i : Int} (h : i = j) (hj : j < n) (w : World) : (Instr.indexAt 22 (.slice (some ⟨ab, aoff, none⟩) n cap) (.int .i64 i)).run Tryd.prog w = .ok (.pointer (some ⟨ab, aoff + j, none⟩)) w := by
  subst h
  go_simp
theorem str_eq (s t : ByteArray) : (s.toList == t.toList) = decide (s = t) := by
  by_cases h : s = t
  · subst h; simp
  · have h2 : s.toList ≠ t.toList := fun e => h (by
      rw [ByteArray.toList_eq, ByteArray.toList_eq] at e
      cases s; cases t
      simp only [ByteArray.mk.injEq] at *
      exact Array.toList_inj.1 e)
    simp [h, h2]
theorem run_eql_str (s t : ByteArray) (w : World) : (binOp .eql 9 (.string s) (.string t)).run Tryd.prog w = .ok (.bool (decide (s = t))) w := by
  rw [← str_eq]; go_simp

set_option maxRecDepth 100000 in
set_option maxHeartbeats 1000000 in
theorem sizeOf_any (k : Nat) (hk : k < 3) (w : World) : Calls Tryd.prog 37 #[.int .i64 k] w fun e w' => e = .returned (.int .i64 (szOf k)) ∧ Below w.heap.size w w' := by
  obtain rfl | rfl | rfl : k = 0 ∨ k = 1 ∨ k = 2 := by omega
  all_goals
    go_enter Tryd.func37, Tryd.ntmps37
    go_wp2
    go_ret
    exact ⟨rfl, (by repeat (first | with_reducible exact Below.refl _ _ | with_reducible assumption | with_reducible refine below_dn ?_ _ | with_reducible refine Below.drew ?_ | with_reducible refine Below.alloc ?_ (by first | omega | (simp; done) | (simp; omega) | (simp [drew_size]; done) | (simp [drew_size]; omega)) _ | with_reducible refine Below.setCell ?_ (by first | omega | (simp; done) | (simp; omega) | (simp [drew_size]; done) | (simp [drew_size]; omega)) _))⟩

theorem BaseAt.below {w w' : World} {v : Value} {b : Ba} (h : BaseAt w v b) (hb : Below w.heap.size w w') : BaseAt w' v b := by
  obtain ⟨nv, a0, a1, a2, rfl, s0, n0, n1, n2⟩ := h
  exact ⟨nv, a0, a1, a2, rfl, s0.below hb (Nat.le_refl _), n0.below hb (Nat.le_refl _), n1.below hb (Nat.le_refl _), n2.below hb (Nat.le_refl _)⟩
theorem treeOk_some {l a c : List Ent} {t : Tr} {z : Int} (h1 : rolledR l z = some a) (h2 : allT t = some c) : treeOk l t z = decide (a = c) := by unfold treeOk; rw [h1, h2]
theorem treeOk_no1 {l : List Ent} {t : Tr} {z : Int} (h1 : rolledR l z = none) : treeOk l t z = false := by unfold treeOk; rw [h1]
theorem treeOk_no2 {l : List Ent} {t : Tr} {z : Int} (h1 : allT t = none) : treeOk l t z = false := by unfold treeOk; rw [h1]; cases rolledR l z <;> rfl
/-- The third loop's state: the trees below k are as they should be; or the base may not be. -/
def MayRel (b : Ba) (l : List Ent) (k : Nat) (B : Bool) : Prop := (B = true → ∀ j, j < k → treeOk l (b.tree j) (szOf j) = true) ∧ (B = false → baseMay b = false)
theorem MayRel.next {b : Ba} {l : List Ent} {k : Nat} (hl : bookR b = some l) (h : MayRel b l k true) (hk : k < 3) : MayRel b l (k + 1) (treeOk l (b.tree k) (szOf k)) := by
  refine ⟨fun hT j hj => ?_, fun hF => baseMay_no fun hB => ?_⟩
  · by_cases hjk : j = k
    · subst hjk; exact hT
    · exact h.1 rfl j (by omega)
  · obtain ⟨l', e, ht⟩ := hB.trees
    rw [hl] at e
    simp only [Option.some.injEq] at e
    subst e
    rw [ht k hk] at hF; cases hF
theorem MayRel.end {b : Ba} {l : List Ent} (hl : bookR b = some l) (h : MayRel b l 3 true) (h1 : b.names.length ≤ 16) (h2 : 0 ≤ b.floor ∧ b.floor ≤ 1048575) (h3 : b.floor % 3600 = 0) (h4 : NamesOk b) : baseMay b = true :=
  baseMay_yes ⟨h1, h2.1, h2.2, h3, h4, l, hl, fun k hk => h.1 rfl k hk⟩
theorem bookR_good {b : Ba} {l : List Ent} (h : bookR b = some l) : Rising l ∧ PGood l := allT_good (bookR_some h).1

set_option maxRecDepth 100000 in
set_option maxHeartbeats 4000000 in
theorem baseMay_any {v : Value} {b : Ba} {w : World} (h : BaseAt w v b) (hst : ∀ s ∈ b.names, s.size ≤ 140737488351232) :
    Calls Tryd.prog 10 #[v] w fun e w' => e = .returned (.bool (baseMay b)) ∧ Below w.heap.size w w' := by
  obtain ⟨sa, sc, g0, l0, p0, g1, l1, p1, g2, l2, p2, rfl, hn, hnames, T0, T1, T2⟩ := h.open
  obtain ⟨W0, hW0⟩ : ∃ W0, W0 = w.alloc (.cells (baCells sa b.names.length sc g0 l0 p0 g1 l1 p1 g2 l2 p2 b) 28) := ⟨_, rfl⟩
  have hb0 : Below w.heap.size w W0 := by rw [hW0]; exact (by repeat (first | with_reducible exact Below.refl _ _ | with_reducible assumption | with_reducible refine below_dn ?_ _ | with_reducible refine Below.drew ?_ | with_reducible refine Below.alloc ?_ (by first | omega | (simp; done) | (simp; omega) | (simp [drew_size]; done) | (simp [drew_size]; omega)) _ | with_reducible refine Below.setCell ?_ (by first | omega | (simp; done) | (simp; omega) | (simp [drew_size]; done) | (simp [drew_size]; omega)) _))
  have hz0 : W0.heap.size = w.heap.size + 1 := by rw [hW0]; simp
  have k0 : W0.heap[w.heap.size]? = some (.cells (baCells sa b.names.length sc g0 l0 p0 g1 l1 p1 g2 l2 p2 b) 28) := by rw [hW0]; exact heap_new _ _ rfl
  have HX := Lib.hid fun w' (hb : Below W0.heap.size W0 w') => (by
    have b0 : w'.heap[w.heap.size]? = _ := (hb.block _ (by omega)).trans k0
    simp [World.cell?, b0] :
    w'.cell? ⟨w.heap.size, 0, none⟩ = some (.slice sa b.names.length sc) ∧ w'.cell? ⟨w.heap.size, 1, none⟩ = some (.slice g0 l0 p0) ∧ w'.cell? ⟨w.heap.size, 2, none⟩ = some (.int .i64 b.t0.root) ∧ w'.cell? ⟨w.heap.size, 3, none⟩ = some (.slice g1 l1 p1) ∧ w'.cell? ⟨w.heap.size, 4, none⟩ = some (.int .i64 b.t1.root) ∧ w'.cell? ⟨w.heap.size, 5, none⟩ = some (.slice g2 l2 p2) ∧ w'.cell? ⟨w.heap.size, 6, none⟩ = some (.int .i64 b.t2.root) ∧ w'.cell? ⟨w.heap.size, 7, none⟩ = some (.int .i64 b.floor))
  have HB := Lib.hid fun w' (hb : Below W0.heap.size W0 w') => (Below.trans' hb0 hb hb0.size : Below w.heap.size w w')
  have HT0 := Lib.hid fun w' (hb : Below W0.heap.size W0 w') => (allOf_any (lo := 0) (hi := 1099511627776) (T0 w' (HB.out w' hb))).mono fun e w' hp => AllPost.allT hp
  have HT1 := Lib.hid fun w' (hb : Below W0.heap.size W0 w') => (allOf_any (lo := 0) (hi := 1099511627776) (T1 w' (HB.out w' hb))).mono fun e w' hp => AllPost.allT hp
  have HT2 := Lib.hid fun w' (hb : Below W0.heap.size W0 w') => (allOf_any (lo := 0) (hi := 1099511627776) (T2 w' (HB.out w' hb))).mono fun e w' hp => AllPost.allT hp
  have HBA := Lib.hid h
  have HSN := Lib.hid hnames
  have HST := Lib.hid hst
  obtain ⟨x0, x1, x2, x3, x4, x5, x6, x7⟩ := HX.out W0 (Below.refl _ _)
  clear T0 T1 T2 h hnames hst
  go_enter Tryd.func10, Tryd.ntmps10
  go_upto_region 1 with (fail)
  rw [← hW0]
  clear hW0 k0
  by_cases i1 : b.names.length ≤ 16
  · have e1 : decide ((16 : Int) < (b.names.length : Int)) = false := by simp; omega
    have HN1 := Lib.hid i1
    by_cases i2 : inR b.floor 0 1048575 = true
    · have HI2 := Lib.hid i2
      obtain ⟨R, hR⟩ : ∃ R, b.floor % 3600 = R := ⟨_, rfl⟩
      have hfl : 0 ≤ b.floor ∧ b.floor ≤ 1048575 := by simpa [inR] using i2
      have HFL := Lib.hid hfl
      have m1 : b.floor.tmod 3600 = R := by rw [Int.tmod_eq_emod_of_nonneg hfl.1]; exact hR
      have m2 : IntKind.i64.wrap R = R := IntWalk.i64_in _ (by omega)
      have HR := Lib.hid hR
      by_cases i3 : R = 0
      · have e3 : (R != 0) = false := by simp [i3]
        have HI3 := Lib.hid (HR.out.trans i3)
        clear i1 i3 hR
        go_wp2_with ((go_at_call 33; refine (in_any _ _ _ _).mono ?_; rintro e w1 ⟨rfl, rfl⟩))
        clear x0 x1 x2 x3 x4 x5 x6 x7
        go_loopg [3] b.names.length (fun g i wr => ∃ k : Nat, k ≤ b.names.length ∧ g = b.names.length - k ∧ i = .int .i64 k ∧ Hid (∀ j, j < k → NameAt b j) ∧ Below W0.heap.size W0 wr)
        case atStart => exact ⟨0, Nat.zero_le _, rfl, rfl, Lib.hid (fun j hj => by omega), Below.refl _ _⟩
        case round =>
          obtain ⟨k, hk, rfl, rfl, HNM, hb⟩ := hrel
          obtain ⟨x0, x1, x2, x3, x4, x5, x6, x7⟩ := HX.out _ hb
          by_cases hlt : k < b.names.length
          · obtain ⟨_, _, va, -, -, -, -, a5⟩ := HSN.out
            obtain ⟨ab, aoff, ha, abb, ac⟩ := a5 (by omega)
            injection va with va1 _ va3
            subst va1 va3 ha
            have HC := Lib.hid fun w' (hb : Below W0.heap.size W0 w') (m : Nat) (hm : m < b.names.length) => strs_cell (HB.out _ hb) abb ac hm
            obtain ⟨s, hs⟩ : ∃ s, b.names[k] = s := ⟨_, rfl⟩
            have e0 := HC.out _ hb k hlt
            rw [hs] at e0
            have HS := Lib.hid hs
            have hix := fun w' => idx_str (ab := ab) (aoff := aoff) (n := b.names.length) (cap := sc) (show (k : Int) = ((k : Nat) : Int) by rfl) hlt w'
            have HNA := Lib.hid fun w' => refNameMay_any s w' (HST.out s (by rw [← hs]; exact List.getElem_mem hlt))
            clear hs a5 ac
            cases hnm : nameMay s with
            | false =>
              have HNO := Lib.hid (baseMay_no fun h : BaseOk b => by have := (h.names k hlt).1; rw [HS.out, hnm] at this; cases this)
              rw [hnm] at HNA
              clear hnm
              go_wp2_with ((go_at_call 34; (with_reducible refine (HNA.out _).mono ?_); rintro e w2 ⟨rfl, hb2⟩))
              go_ret
              exact ⟨ret_bool HNO.out.symm, HB.out _ (Below.trans' hb hb2 hb.size)⟩
            | true =>
              have HNMT := Lib.hid hnm
              rw [hnm] at HNA
              clear hnm
              go_wp2_with ((go_at_call 34; (with_reducible refine (HNA.out _).mono ?_); rintro e w2 ⟨rfl, hb2⟩; have hb3 := Below.trans' hb hb2 hb.size))
              clear x0 x1 x2 x3 x4 x5 x6 x7 e0
              go_loopg [4] k (fun g i wr => ∃ m : Nat, m ≤ k ∧ g = k - m ∧ i = .int .i64 m ∧ Hid (∀ j (hj : j < m) (hjn : j < b.names.length), b.names[j] ≠ s) ∧ Below W0.heap.size W0 wr)
              case atStart => exact ⟨0, Nat.zero_le _, rfl, rfl, Lib.hid (fun j hj => by omega), hb3⟩
              case round =>
                obtain ⟨m, hm, rfl, rfl, HNE, hb4⟩ := hrel
                obtain ⟨x0, x1, x2, x3, x4, x5, x6, x7⟩ := HX.out _ hb4
                by_cases hlm : m < k
                · have hmn : m < b.names.length := by omega
                  obtain ⟨s2, hs2⟩ : ∃ s2, b.names[m] = s2 := ⟨_, rfl⟩
                  have e0 := HC.out _ hb4 k hlt
                  rw [HS.out] at e0
                  have e2 := HC.out _ hb4 m hmn
                  rw [hs2] at e2
                  have HS2 := Lib.hid hs2
                  have hix2 := fun w' => idx_str (ab := ab) (aoff := aoff) (n := b.names.length) (cap := sc) (show (m : Int) = ((m : Nat) : Int) by rfl) hmn w'
                  have hse := str_eq s2 s
                  clear hs2
                  by_cases hss : s2 = s
                  · have HNO := Lib.hid (baseMay_no fun h : BaseOk b => (h.names k hlt).2 m hlm (by rw [HS2.out, HS.out]; exact hss))
                    have hsd : decide (s2 = s) = true := by simp [hss]
                    rw [hsd] at hse
                    clear hss hsd
                    go_wp2_with fail
                    go_quiet (fail)
                    go_wp2
                    go_ret
                    exact ⟨ret_bool HNO.out.symm, by have := HB.out _ hb4; exact (by repeat (first | with_reducible exact Below.refl _ _ | with_reducible assumption | with_reducible refine below_dn ?_ _ | with_reducible refine Below.drew ?_ | with_reducible refine Below.alloc ?_ (by first | omega | (simp; done) | (simp; omega) | (simp [drew_size]; done) | (simp [drew_size]; omega)) _ | with_reducible refine Below.setCell ?_ (by first | omega | (simp; done) | (simp; omega) | (simp [drew_size]; done) | (simp [drew_size]; omega)) _))⟩
                  · have HNE2 := Lib.hid (show ∀ j (hj : j < m + 1) (hjn : j < b.names.length), b.names[j] ≠ s from fun j hj hjn => by
                      by_cases hjm : j = m
                      · subst hjm; rw [HS2.out]; exact hss
                      · exact HNE.out j (by omega) hjn)
                    have hsd : decide (s2 = s) = false := by simp [hss]
                    rw [hsd] at hse
                    clear hss hsd
                    go_wp2_with fail
                    go_quiet (fail)
                    go_wp2
                    go_roundg (k - (m + 1))
                    case measure => omega
                    case rel => exact ⟨m + 1, by omega, rfl, by go_num, HNE2, (by repeat (first | with_reducible exact Below.refl _ _ | with_reducible assumption | with_reducible refine below_dn ?_ _ | with_reducible refine Below.drew ?_ | with_reducible refine Below.alloc ?_ (by first | omega | (simp; done) | (simp; omega) | (simp [drew_size]; done) | (simp [drew_size]; omega)) _ | with_reducible refine Below.setCell ?_ (by first | omega | (simp; done) | (simp; omega) | (simp [drew_size]; done) | (simp [drew_size]; omega)) _))⟩
                · have HNM2 := Lib.hid (show ∀ j, j < k + 1 → NameAt b j from fun j hj => by
                    by_cases hjk : j = k
                    · subst hjk; exact fun h => ⟨by rw [HS.out]; exact HNMT.out, fun i hi => by rw [HS.out]; exact HNE.out i (by omega) (by omega)⟩
                    · exact HNM.out j (by omega))
                  go_wp2
                  go_roundg (b.names.length - (k + 1))
                  case measure => omega
                  case rel => exact ⟨k + 1, by omega, rfl, by go_num, HNM2, hb4⟩
          · have HNM2 := Lib.hid (show NamesOk b from fun j h => HNM.out j (by omega) h)
            have HBO := Lib.hid (book_any (HBA.out.below (HB.out _ hb)))
            cases hbk : bookR b with
            | none =>
              have HNO := Lib.hid (baseMay_no fun h : BaseOk b => by obtain ⟨l, e, _⟩ := h.trees; rw [hbk] at e; cases e)
              rw [hbk] at HBO
              clear hbk
              go_wp2_with ((go_at_call 35; (with_reducible refine HBO.out.mono ?_); rintro e w5 ⟨hb5', rfl⟩; have hb5 := Below.trans' hb hb5' hb.size))
              clear x0 x1 x2 x3 x4 x5 x6 x7
              go_loopg [6, 7] 0 (fun g okv kv wr => g = 0 ∧ okv = .bool false ∧ kv = .int .i64 0 ∧ Below W0.heap.size W0 wr)
              case atStart => exact ⟨rfl, rfl, rfl, hb5⟩
              case round =>
                obtain ⟨rfl, rfl, rfl, hb6⟩ := hrel
                go_wp2
                go_ret
                exact ⟨ret_bool HNO.out.symm, HB.out _ hb6⟩
            | some l =>
              have HBK := Lib.hid hbk
              have HLG := Lib.hid (bookR_good hbk).2
              have hlen : l.length ≤ 50000 := (bookR_good hbk).2.2.2
              rw [hbk] at HBO
              clear hbk
              go_wp2_with ((go_at_call 35; (with_reducible refine HBO.out.mono ?_); rintro e w5 ⟨hb5', v5, rfl, ho5⟩; have hb5 := Below.trans' hb hb5' hb.size; obtain ⟨s5, c5, rfl⟩ := ho5.isSlice))
              clear x0 x1 x2 x3 x4 x5 x6 x7
              go_loopg [6, 7] 3 (fun g okv kv wr => ∃ (k : Nat) (B : Bool), k ≤ 3 ∧ g = 3 - k ∧ kv = .int .i64 k ∧ okv = .bool B ∧ Hid (MayRel b l k B) ∧ Below w5.heap.size w5 wr)
              case atStart => exact ⟨0, true, by omega, rfl, rfl, rfl, Lib.hid ⟨fun _ j hj => by omega, fun h => by cases h⟩, Below.refl _ _⟩
              case round =>
                obtain ⟨kk, B, hkk, rfl, rfl, rfl, HREL, hbk⟩ := hrel
                have hbk0 := Below.trans' hb5 hbk hb5.size
                obtain ⟨x0, x1, x2, x3, x4, x5, x6, x7⟩ := HX.out _ hbk0
                cases B with
                | false =>
                  have HNO := Lib.hid (HREL.out.2 rfl)
                  by_cases hk3 : kk < 3
                  · go_wp2
                    go_ret
                    exact ⟨ret_bool HNO.out.symm, HB.out _ hbk0⟩
                  · go_wp2
                    go_ret
                    exact ⟨ret_bool HNO.out.symm, HB.out _ hbk0⟩
                | true =>
                  obtain rfl | rfl | rfl | rfl : kk = 0 ∨ kk = 1 ∨ kk = 2 ∨ kk = 3 := by omega
                  · have HSZ := Lib.hid (show ∀ w, Calls Tryd.prog 37 #[.int .i64 0] w fun e w' => e = .returned (.int .i64 (szOf 0)) ∧ Below w.heap.size w w' from sizeOf_any 0 (by decide))
                    have HNX := Lib.hid (MayRel.next (k := 0) HBK.out HREL.out (by decide))
                    have HRO := Lib.hid fun w' (hb : Below w5.heap.size w5 w') => rolled_any (size := szOf 0) ((ho5.below hb (Nat.le_refl _)).at (by omega)) HLG.out (by decide) (by decide)
                    have HAL := Lib.hid fun w' (hb : Below W0.heap.size W0 w') => HT0.out w' hb
                    clear x0 x1 x2 x3 x4 x5 x6 x7
                    cases hro : rolledR l (szOf 0) with
                    | none =>
                      have HTK := Lib.hid (treeOk_no1 (t := b.tree 0) hro)
                      rw [hro] at HRO
                      clear hro
                      cases hal : allT b.t0 with
                      | none =>
                        rw [hal] at HAL
                        clear hal
                        go_wp2_with (first | (go_at_call 37; (with_reducible refine (HSZ.out _).mono ?_); rintro e wz ⟨rfl, hbz⟩; have hbz' := Below.trans' hbk hbz hbk.size) | (go_at_call 36; (with_reducible refine (HRO.out _ hbz').mono ?_); rintro e wq ⟨hbq, rfl⟩; have hbq' := Below.trans' hbz' hbq hbz'.size; have hbq0 := Below.trans' hb5 hbq' hb5.size; obtain ⟨x0, x1, x2, x3, x4, x5, x6, x7⟩ := HX.out _ hbq0) | (go_at_call 38; (with_reducible refine (HAL.out _ hbq0).mono ?_); rintro e wa ⟨hba, E, hE, rfl⟩; have hba' := Below.trans' hbq' hba hbq'.size))
                        go_roundg (3 - (0 + 1))
                        case measure => omega
                        case rel => exact ⟨0 + 1, false, by omega, rfl, by go_num, rfl, Lib.hid (by have := HNX.out; rw [HTK.out] at this; exact this), hba'⟩
                      | some c =>
                        rw [hal] at HAL
                        clear hal
                        go_wp2_with (first | (go_at_call 37; (with_reducible refine (HSZ.out _).mono ?_); rintro e wz ⟨rfl, hbz⟩; have hbz' := Below.trans' hbk hbz hbk.size) | (go_at_call 36; (with_reducible refine (HRO.out _ hbz').mono ?_); rintro e wq ⟨hbq, rfl⟩; have hbq' := Below.trans' hbz' hbq hbz'.size; have hbq0 := Below.trans' hb5 hbq' hb5.size; obtain ⟨x0, x1, x2, x3, x4, x5, x6, x7⟩ := HX.out _ hbq0) | (go_at_call 38; (with_reducible refine (HAL.out _ hbq0).mono ?_); rintro e wa ⟨hba, va, rfl, hoa⟩; have hba' := Below.trans' hbq' hba hbq'.size; obtain ⟨sA, cA, rfl⟩ := hoa.isSlice))
                        go_roundg (3 - (0 + 1))
                        case measure => omega
                        case rel => exact ⟨0 + 1, false, by omega, rfl, by go_num, rfl, Lib.hid (by have := HNX.out; rw [HTK.out] at this; exact this), hba'⟩
                    | some a =>
                      rw [hro] at HRO
                      have HRL := Lib.hid (pgood_bag (bucket_good (szOf_pos 0) HLG.out) hro)
                      cases hal : allT b.t0 with
                      | none =>
                        have HTK := Lib.hid (show treeOk l (b.tree 0) (szOf 0) = false from treeOk_no2 hal)
                        rw [hal] at HAL
                        clear hal hro
                        go_wp2_with (first | (go_at_call 37; (with_reducible refine (HSZ.out _).mono ?_); rintro e wz ⟨rfl, hbz⟩; have hbz' := Below.trans' hbk hbz hbk.size) | (go_at_call 36; (with_reducible refine (HRO.out _ hbz').mono ?_); rintro e wq ⟨hbq, vq, rfl, hoq⟩; have hbq' := Below.trans' hbz' hbq hbz'.size; have hbq0 := Below.trans' hb5 hbq' hb5.size; obtain ⟨x0, x1, x2, x3, x4, x5, x6, x7⟩ := HX.out _ hbq0; obtain ⟨sQ, cQ, rfl⟩ := hoq.isSlice) | (go_at_call 38; (with_reducible refine (HAL.out _ hbq0).mono ?_); rintro e wa ⟨hba, E, hE, rfl⟩; have hba' := Below.trans' hbq' hba hbq'.size; have hE2 : (E == 0) = false := by simpa using hE))
                        go_roundg (3 - (0 + 1))
                        case measure => omega
                        case rel => exact ⟨0 + 1, false, by omega, rfl, by go_num, rfl, Lib.hid (by have := HNX.out; rw [HTK.out] at this; exact this), hba'⟩
                      | some c =>
                        have HTK := Lib.hid (show treeOk l (b.tree 0) (szOf 0) = decide (a = c) from treeOk_some hro hal)
                        have HCL := Lib.hid (allT_good hal)
                        rw [hal] at HAL
                        clear hal hro
                        go_wp2_with (first | (go_at_call 37; (with_reducible refine (HSZ.out _).mono ?_); rintro e wz ⟨rfl, hbz⟩; have hbz' := Below.trans' hbk hbz hbk.size) | (go_at_call 36; (with_reducible refine (HRO.out _ hbz').mono ?_); rintro e wq ⟨hbq, vq, rfl, hoq⟩; have hbq' := Below.trans' hbz' hbq hbz'.size; have hbq0 := Below.trans' hb5 hbq' hb5.size; obtain ⟨x0, x1, x2, x3, x4, x5, x6, x7⟩ := HX.out _ hbq0; obtain ⟨sQ, cQ, rfl⟩ := hoq.isSlice) | (go_at_call 38; (with_reducible refine (HAL.out _ hbq0).mono ?_); rintro e wa ⟨hba, va, rfl, hoa⟩; have hba' := Below.trans' hbq' hba hbq'.size; obtain ⟨sA, cA, rfl⟩ := hoa.isSlice; have HSE := Lib.hid (refSameEntries_any ((hoq.below hba (Nat.le_refl _)).at (by have := HRL.out.2.2; omega)) (hoa.at (by have := HCL.out.2.2.2; omega)))) | (go_at_call 39; (with_reducible refine HSE.out.mono ?_); rintro e ws ⟨rfl, hbs⟩; have hbs' := Below.trans' hba' hbs hba'.size))
                        go_roundg (3 - (0 + 1))
                        case measure => omega
                        case rel => exact ⟨0 + 1, (decide (a = c)), by omega, rfl, by go_num, rfl, Lib.hid (by have := HNX.out; rw [HTK.out] at this; exact this), hbs'⟩
                  · have HSZ := Lib.hid (show ∀ w, Calls Tryd.prog 37 #[.int .i64 1] w fun e w' => e = .returned (.int .i64 (szOf 1)) ∧ Below w.heap.size w w' from sizeOf_any 1 (by decide))
                    have HNX := Lib.hid (MayRel.next (k := 1) HBK.out HREL.out (by decide))
                    have HRO := Lib.hid fun w' (hb : Below w5.heap.size w5 w') => rolled_any (size := szOf 1) ((ho5.below hb (Nat.le_refl _)).at (by omega)) HLG.out (by decide) (by decide)
                    have HAL := Lib.hid fun w' (hb : Below W0.heap.size W0 w') => HT1.out w' hb
                    clear x0 x1 x2 x3 x4 x5 x6 x7
                    cases hro : rolledR l (szOf 1) with
                    | none =>
                      have HTK := Lib.hid (treeOk_no1 (t := b.tree 1) hro)
                      rw [hro] at HRO
                      clear hro
                      cases hal : allT b.t1 with
                      | none =>
                        rw [hal] at HAL
                        clear hal
                        go_wp2_with (first | (go_at_call 37; (with_reducible refine (HSZ.out _).mono ?_); rintro e wz ⟨rfl, hbz⟩; have hbz' := Below.trans' hbk hbz hbk.size) | (go_at_call 36; (with_reducible refine (HRO.out _ hbz').mono ?_); rintro e wq ⟨hbq, rfl⟩; have hbq' := Below.trans' hbz' hbq hbz'.size; have hbq0 := Below.trans' hb5 hbq' hb5.size; obtain ⟨x0, x1, x2, x3, x4, x5, x6, x7⟩ := HX.out _ hbq0) | (go_at_call 38; (with_reducible refine (HAL.out _ hbq0).mono ?_); rintro e wa ⟨hba, E, hE, rfl⟩; have hba' := Below.trans' hbq' hba hbq'.size))
                        go_roundg (3 - (1 + 1))
                        case measure => omega
                        case rel => exact ⟨1 + 1, false, by omega, rfl, by go_num, rfl, Lib.hid (by have := HNX.out; rw [HTK.out] at this; exact this), hba'⟩
                      | some c =>
                        rw [hal] at HAL
                        clear hal
                        go_wp2_with (first | (go_at_call 37; (with_reducible refine (HSZ.out _).mono ?_); rintro e wz ⟨rfl, hbz⟩; have hbz' := Below.trans' hbk hbz hbk.size) | (go_at_call 36; (with_reducible refine (HRO.out _ hbz').mono ?_); rintro e wq ⟨hbq, rfl⟩; have hbq' := Below.trans' hbz' hbq hbz'.size; have hbq0 := Below.trans' hb5 hbq' hb5.size; obtain ⟨x0, x1, x2, x3, x4, x5, x6, x7⟩ := HX.out _ hbq0) | (go_at_call 38; (with_reducible refine (HAL.out _ hbq0).mono ?_); rintro e wa ⟨hba, va, rfl, hoa⟩; have hba' := Below.trans' hbq' hba hbq'.size; obtain ⟨sA, cA, rfl⟩ := hoa.isSlice))
                        go_roundg (3 - (1 + 1))
                        case measure => omega
                        case rel => exact ⟨1 + 1, false, by omega, rfl, by go_num, rfl, Lib.hid (by have := HNX.out; rw [HTK.out] at this; exact this), hba'⟩
                    | some a =>
                      rw [hro] at HRO
                      have HRL := Lib.hid (pgood_bag (bucket_good (szOf_pos 1) HLG.out) hro)
                      cases hal : allT b.t1 with
                      | none =>
                        have HTK := Lib.hid (show treeOk l (b.tree 1) (szOf 1) = false from treeOk_no2 hal)
                        rw [hal] at HAL
                        clear hal hro
                        go_wp2_with (first | (go_at_call 37; (with_reducible refine (HSZ.out _).mono ?_); rintro e wz ⟨rfl, hbz⟩; have hbz' := Below.trans' hbk hbz hbk.size) | (go_at_call 36; (with_reducible refine (HRO.out _ hbz').mono ?_); rintro e wq ⟨hbq, vq, rfl, hoq⟩; have hbq' := Below.trans' hbz' hbq hbz'.size; have hbq0 := Below.trans' hb5 hbq' hb5.size; obtain ⟨x0, x1, x2, x3, x4, x5, x6, x7⟩ := HX.out _ hbq0; obtain ⟨sQ, cQ, rfl⟩ := hoq.isSlice) | (go_at_call 38; (with_reducible refine (HAL.out _ hbq0).mono ?_); rintro e wa ⟨hba, E, hE, rfl⟩; have hba' := Below.trans' hbq' hba hbq'.size; have hE2 : (E == 0) = false := by simpa using hE))
                        go_roundg (3 - (1 + 1))
                        case measure => omega
                        case rel => exact ⟨1 + 1, false, by omega, rfl, by go_num, rfl, Lib.hid (by have := HNX.out; rw [HTK.out] at this; exact this), hba'⟩
                      | some c =>
                        have HTK := Lib.hid (show treeOk l (b.tree 1) (szOf 1) = decide (a = c) from treeOk_some hro hal)
                        have HCL := Lib.hid (allT_good hal)
                        rw [hal] at HAL
                        clear hal hro
                        go_wp2_with (first | (go_at_call 37; (with_reducible refine (HSZ.out _).mono ?_); rintro e wz ⟨rfl, hbz⟩; have hbz' := Below.trans' hbk hbz hbk.size) | (go_at_call 36; (with_reducible refine (HRO.out _ hbz').mono ?_); rintro e wq ⟨hbq, vq, rfl, hoq⟩; have hbq' := Below.trans' hbz' hbq hbz'.size; have hbq0 := Below.trans' hb5 hbq' hb5.size; obtain ⟨x0, x1, x2, x3, x4, x5, x6, x7⟩ := HX.out _ hbq0; obtain ⟨sQ, cQ, rfl⟩ := hoq.isSlice) | (go_at_call 38; (with_reducible refine (HAL.out _ hbq0).mono ?_); rintro e wa ⟨hba, va, rfl, hoa⟩; have hba' := Below.trans' hbq' hba hbq'.size; obtain ⟨sA, cA, rfl⟩ := hoa.isSlice; have HSE := Lib.hid (refSameEntries_any ((hoq.below hba (Nat.le_refl _)).at (by have := HRL.out.2.2; omega)) (hoa.at (by have := HCL.out.2.2.2; omega)))) | (go_at_call 39; (with_reducible refine HSE.out.mono ?_); rintro e ws ⟨rfl, hbs⟩; have hbs' := Below.trans' hba' hbs hba'.size))
                        go_roundg (3 - (1 + 1))
                        case measure => omega
                        case rel => exact ⟨1 + 1, (decide (a = c)), by omega, rfl, by go_num, rfl, Lib.hid (by have := HNX.out; rw [HTK.out] at this; exact this), hbs'⟩
                  · have HSZ := Lib.hid (show ∀ w, Calls Tryd.prog 37 #[.int .i64 2] w fun e w' => e = .returned (.int .i64 (szOf 2)) ∧ Below w.heap.size w w' from sizeOf_any 2 (by decide))
                    have HNX := Lib.hid (MayRel.next (k := 2) HBK.out HREL.out (by decide))
                    have HRO := Lib.hid fun w' (hb : Below w5.heap.size w5 w') => rolled_any (size := szOf 2) ((ho5.below hb (Nat.le_refl _)).at (by omega)) HLG.out (by decide) (by decide)
                    have HAL := Lib.hid fun w' (hb : Below W0.heap.size W0 w') => HT2.out w' hb
                    clear x0 x1 x2 x3 x4 x5 x6 x7
                    cases hro : rolledR l (szOf 2) with
                    | none =>
                      have HTK := Lib.hid (treeOk_no1 (t := b.tree 2) hro)
                      rw [hro] at HRO
                      clear hro
                      cases hal : allT b.t2 with
                      | none =>
                        rw [hal] at HAL
                        clear hal
                        go_wp2_with (first | (go_at_call 37; (with_reducible refine (HSZ.out _).mono ?_); rintro e wz ⟨rfl, hbz⟩; have hbz' := Below.trans' hbk hbz hbk.size) | (go_at_call 36; (with_reducible refine (HRO.out _ hbz').mono ?_); rintro e wq ⟨hbq, rfl⟩; have hbq' := Below.trans' hbz' hbq hbz'.size; have hbq0 := Below.trans' hb5 hbq' hb5.size; obtain ⟨x0, x1, x2, x3, x4, x5, x6, x7⟩ := HX.out _ hbq0) | (go_at_call 38; (with_reducible refine (HAL.out _ hbq0).mono ?_); rintro e wa ⟨hba, E, hE, rfl⟩; have hba' := Below.trans' hbq' hba hbq'.size))
                        go_roundg (3 - (2 + 1))
                        case measure => omega
                        case rel => exact ⟨2 + 1, false, by omega, rfl, by go_num, rfl, Lib.hid (by have := HNX.out; rw [HTK.out] at this; exact this), hba'⟩
                      | some c =>
                        rw [hal] at HAL
                        clear hal
                        go_wp2_with (first | (go_at_call 37; (with_reducible refine (HSZ.out _).mono ?_); rintro e wz ⟨rfl, hbz⟩; have hbz' := Below.trans' hbk hbz hbk.size) | (go_at_call 36; (with_reducible refine (HRO.out _ hbz').mono ?_); rintro e wq ⟨hbq, rfl⟩; have hbq' := Below.trans' hbz' hbq hbz'.size; have hbq0 := Below.trans' hb5 hbq' hb5.size; obtain ⟨x0, x1, x2, x3, x4, x5, x6, x7⟩ := HX.out _ hbq0) | (go_at_call 38; (with_reducible refine (HAL.out _ hbq0).mono ?_); rintro e wa ⟨hba, va, rfl, hoa⟩; have hba' := Below.trans' hbq' hba hbq'.size; obtain ⟨sA, cA, rfl⟩ := hoa.isSlice))
                        go_roundg (3 - (2 + 1))
                        case measure => omega
                        case rel => exact ⟨2 + 1, false, by omega, rfl, by go_num, rfl, Lib.hid (by have := HNX.out; rw [HTK.out] at this; exact this), hba'⟩
                    | some a =>
                      rw [hro] at HRO
                      have HRL := Lib.hid (pgood_bag (bucket_good (szOf_pos 2) HLG.out) hro)
                      cases hal : allT b.t2 with
                      | none =>
                        have HTK := Lib.hid (show treeOk l (b.tree 2) (szOf 2) = false from treeOk_no2 hal)
                        rw [hal] at HAL
                        clear hal hro
                        go_wp2_with (first | (go_at_call 37; (with_reducible refine (HSZ.out _).mono ?_); rintro e wz ⟨rfl, hbz⟩; have hbz' := Below.trans' hbk hbz hbk.size) | (go_at_call 36; (with_reducible refine (HRO.out _ hbz').mono ?_); rintro e wq ⟨hbq, vq, rfl, hoq⟩; have hbq' := Below.trans' hbz' hbq hbz'.size; have hbq0 := Below.trans' hb5 hbq' hb5.size; obtain ⟨x0, x1, x2, x3, x4, x5, x6, x7⟩ := HX.out _ hbq0; obtain ⟨sQ, cQ, rfl⟩ := hoq.isSlice) | (go_at_call 38; (with_reducible refine (HAL.out _ hbq0).mono ?_); rintro e wa ⟨hba, E, hE, rfl⟩; have hba' := Below.trans' hbq' hba hbq'.size; have hE2 : (E == 0) = false := by simpa using hE))
                        go_roundg (3 - (2 + 1))
                        case measure => omega
                        case rel => exact ⟨2 + 1, false, by omega, rfl, by go_num, rfl, Lib.hid (by have := HNX.out; rw [HTK.out] at this; exact this), hba'⟩
                      | some c =>
                        have HTK := Lib.hid (show treeOk l (b.tree 2) (szOf 2) = decide (a = c) from treeOk_some hro hal)
                        have HCL := Lib.hid (allT_good hal)
                        rw [hal] at HAL
                        clear hal hro
                        go_wp2_with (first | (go_at_call 37; (with_reducible refine (HSZ.out _).mono ?_); rintro e wz ⟨rfl, hbz⟩; have hbz' := Below.trans' hbk hbz hbk.size) | (go_at_call 36; (with_reducible refine (HRO.out _ hbz').mono ?_); rintro e wq ⟨hbq, vq, rfl, hoq⟩; have hbq' := Below.trans' hbz' hbq hbz'.size; have hbq0 := Below.trans' hb5 hbq' hb5.size; obtain ⟨x0, x1, x2, x3, x4, x5, x6, x7⟩ := HX.out _ hbq0; obtain ⟨sQ, cQ, rfl⟩ := hoq.isSlice) | (go_at_call 38; (with_reducible refine (HAL.out _ hbq0).mono ?_); rintro e wa ⟨hba, va, rfl, hoa⟩; have hba' := Below.trans' hbq' hba hbq'.size; obtain ⟨sA, cA, rfl⟩ := hoa.isSlice; have HSE := Lib.hid (refSameEntries_any ((hoq.below hba (Nat.le_refl _)).at (by have := HRL.out.2.2; omega)) (hoa.at (by have := HCL.out.2.2.2; omega)))) | (go_at_call 39; (with_reducible refine HSE.out.mono ?_); rintro e ws ⟨rfl, hbs⟩; have hbs' := Below.trans' hba' hbs hba'.size))
                        go_roundg (3 - (2 + 1))
                        case measure => omega
                        case rel => exact ⟨2 + 1, (decide (a = c)), by omega, rfl, by go_num, rfl, Lib.hid (by have := HNX.out; rw [HTK.out] at this; exact this), hbs'⟩
                  · have HYES := Lib.hid (HREL.out.end HBK.out HN1.out HFL.out HI3.out HNM2.out)
                    go_wp2
                    go_ret
                    exact ⟨ret_bool HYES.out.symm, HB.out _ hbk0⟩
      · have e3 : (R != 0) = true := by simp [i3]
        have HNO := Lib.hid (baseMay_no fun h : BaseOk b => i3 (HR.out.symm.trans h.fl2))
        clear i1 i3 hR
        go_wp2_with ((go_at_call 33; refine (in_any _ _ _ _).mono ?_; rintro e w1 ⟨rfl, rfl⟩))
        go_ret
        exact ⟨ret_bool HNO.out.symm, hb0⟩
    · have i2' : inR b.floor 0 1048575 = false := by simpa using i2
      have HNO := Lib.hid (baseMay_no fun h : BaseOk b => i2 (by simp [inR]; exact ⟨h.fl0, h.fl1⟩))
      clear i1 i2
      go_wp2_with ((go_at_call 33; refine (in_any _ _ _ _).mono ?_; rintro e w1 ⟨rfl, rfl⟩))
      go_ret
      exact ⟨ret_bool HNO.out.symm, hb0⟩
  · have e1 : decide ((16 : Int) < (b.names.length : Int)) = true := by simp; omega
    have HNO := Lib.hid (baseMay_no fun h : BaseOk b => i1 h.n16)
    clear i1
    go_wp2
    go_ret
    exact ⟨ret_bool HNO.out.symm, hb0⟩
end Go.Proofs.YtijcaejdgicbmaaDoor

/- The walk of the document's BaseIs: is a base the one with these names, this floor, and these points known? -/
namespace Go.Proofs.YtijcaejdgicbmaaDoor
open Go.RowKit

noncomputable def baseIs (b : Ba) (names : List ByteArray) (floor : Int) (l : List Ent) : Bool := baseMay b && decide (b.floor = floor) && decide (b.names = names) && decide (bookR b = some l)
theorem baseIs_no1 {b : Ba} {ns : List ByteArray} {fl : Int} {l : List Ent} (h : baseMay b = false) : baseIs b ns fl l = false := by simp [baseIs, h]
theorem baseIs_no2 {b : Ba} {ns : List ByteArray} {fl : Int} {l : List Ent} (h : b.floor ≠ fl) : baseIs b ns fl l = false := by simp [baseIs, h]
theorem baseIs_no3 {b : Ba} {ns : List ByteArray} {fl : Int} {l : List Ent} (h : b.names ≠ ns) : baseIs b ns fl l = false := by simp [baseIs, h]
theorem baseIs_eq {b : Ba} {ns : List ByteArray} {fl : Int} {l m : List Ent} (h1 : baseMay b = true) (h2 : b.floor = fl) (h3 : b.names = ns) (h4 : bookR b = some m) : baseIs b ns fl l = decide (m = l) := by simp [baseIs, h1, h2, h3, h4]

set_option maxRecDepth 100000 in
set_option maxHeartbeats 2000000 in
theorem baseIs_any {v nv lv : Value} {b : Ba} {ns : List ByteArray} {fl : Int} {l : List Ent} {w : World} (h : BaseAt w v b) (hst : ∀ s ∈ b.names, s.size ≤ 140737488351232) (hns : StrsAt w nv ns) (hl : EntsAt w lv l) :
    Calls Tryd.prog 24 #[v, nv, .int .i64 fl, lv] w fun e w' => e = .returned (.bool (baseIs b ns fl l)) ∧ Below w.heap.size w w' := by
  obtain ⟨sa, sc, g0, l0, p0, g1, l1, p1, g2, l2, p2, rfl, hn, hnames, T0, T1, T2⟩ := h.open
  obtain ⟨na, nc, rfl⟩ := hns.isSlice
  obtain ⟨la, lc, rfl⟩ := hl.isSlice
  have hnl := hns.len (by decide)
  obtain ⟨W0, hW0⟩ : ∃ W0, W0 = w.alloc (.cells (baCells sa b.names.length sc g0 l0 p0 g1 l1 p1 g2 l2 p2 b) 28) := ⟨_, rfl⟩
  have hb0 : Below w.heap.size w W0 := by rw [hW0]; exact (by repeat (first | with_reducible exact Below.refl _ _ | with_reducible assumption | with_reducible refine below_dn ?_ _ | with_reducible refine Below.drew ?_ | with_reducible refine Below.alloc ?_ (by first | omega | (simp; done) | (simp; omega) | (simp [drew_size]; done) | (simp [drew_size]; omega)) _ | with_reducible refine Below.setCell ?_ (by first | omega | (simp; done) | (simp; omega) | (simp [drew_size]; done) | (simp [drew_size]; omega)) _))
  have hz0 : W0.heap.size = w.heap.size + 1 := by rw [hW0]; simp
  have k0 : W0.heap[w.heap.size]? = some (.cells (baCells sa b.names.length sc g0 l0 p0 g1 l1 p1 g2 l2 p2 b) 28) := by rw [hW0]; exact heap_new _ _ rfl
  have HX := Lib.hid fun w' (hb : Below W0.heap.size W0 w') => (by
    have b0 : w'.heap[w.heap.size]? = _ := (hb.block _ (by omega)).trans k0
    simp [World.cell?, b0] :
    w'.cell? ⟨w.heap.size, 0, none⟩ = some (.slice sa b.names.length sc) ∧ w'.cell? ⟨w.heap.size, 1, none⟩ = some (.slice g0 l0 p0) ∧ w'.cell? ⟨w.heap.size, 2, none⟩ = some (.int .i64 b.t0.root) ∧ w'.cell? ⟨w.heap.size, 3, none⟩ = some (.slice g1 l1 p1) ∧ w'.cell? ⟨w.heap.size, 4, none⟩ = some (.int .i64 b.t1.root) ∧ w'.cell? ⟨w.heap.size, 5, none⟩ = some (.slice g2 l2 p2) ∧ w'.cell? ⟨w.heap.size, 6, none⟩ = some (.int .i64 b.t2.root) ∧ w'.cell? ⟨w.heap.size, 7, none⟩ = some (.int .i64 b.floor))
  have HB := Lib.hid fun w' (hb : Below W0.heap.size W0 w') => (Below.trans' hb0 hb hb0.size : Below w.heap.size w w')
  have HBA := Lib.hid h
  have HMAY := Lib.hid (baseMay_any (h.below hb0) hst)
  have HSN := Lib.hid hnames
  have HNS := Lib.hid hns
  have HL := Lib.hid hl
  obtain ⟨x0, x1, x2, x3, x4, x5, x6, x7⟩ := HX.out W0 (Below.refl _ _)
  clear T0 T1 T2 h hnames hst hns hl
  go_enter Tryd.func24, Tryd.ntmps24
  go_upto_region 1 with (fail)
  rw [← hW0]
  clear hW0 k0
  cases hm : baseMay b with
  | false =>
    have HNO := Lib.hid (baseIs_no1 (ns := ns) (fl := fl) (l := l) hm)
    rw [hm] at HMAY
    clear hm
    go_wp2_with ((go_at_call 10; (with_reducible refine HMAY.out.mono ?_); rintro e w1 ⟨rfl, hb1⟩; obtain ⟨x0, x1, x2, x3, x4, x5, x6, x7⟩ := HX.out _ hb1))
    go_ret
    exact ⟨ret_bool HNO.out.symm, HB.out _ hb1⟩
  | true =>
    have HM := Lib.hid hm
    rw [hm] at HMAY
    clear hm
    by_cases i1 : b.floor = fl
    · have e1 : (b.floor != fl) = false := by simp [i1]
      have HFL := Lib.hid i1
      by_cases i2 : b.names.length = ns.length
      · have e2 : ((b.names.length : Int) != (ns.length : Int)) = false := by simp [i2]
        have HLN := Lib.hid i2
        have hle : ns.length ≤ b.names.length := by omega
        clear i1 i2
        go_wp2_with ((go_at_call 10; (with_reducible refine HMAY.out.mono ?_); rintro e w1 ⟨rfl, hb1⟩; obtain ⟨x0', x1', x2', x3', x4', x5', x6', x7'⟩ := HX.out _ hb1))
        clear x0 x1 x2 x3 x4 x5 x6 x7 x0' x1' x2' x3' x4' x5' x6' x7'
        go_loopg [9] ns.length (fun g i wr => ∃ k : Nat, k ≤ ns.length ∧ g = ns.length - k ∧ i = .int .i64 k ∧ Hid (ns.take k = b.names.take k) ∧ Below W0.heap.size W0 wr)
        case atStart => exact ⟨0, Nat.zero_le _, rfl, rfl, Lib.hid rfl, hb1⟩
        case round =>
          obtain ⟨k, hk, rfl, rfl, HE, hb⟩ := hrel
          obtain ⟨x0, x1, x2, x3, x4, x5, x6, x7⟩ := HX.out _ hb
          by_cases hlt : k < ns.length
          · obtain ⟨_, _, va, -, -, -, -, a5⟩ := HSN.out
            obtain ⟨_, _, vb, -, -, -, -, b5⟩ := HNS.out
            have hltb : k < b.names.length := by omega
            obtain ⟨ab, aoff, ha, abb, ac⟩ := a5 (by omega)
            obtain ⟨bb, boff, hb', bbb, bc⟩ := b5 (by omega)
            injection va with va1 _ va3
            injection vb with vb1 _ vb3
            subst va1 va3 vb1 vb3 ha hb'
            have e0 := strs_cell (HB.out _ hb) abb ac hltb
            have e3 := strs_cell (HB.out _ hb) bbb bc hlt
            obtain ⟨s, hs⟩ : ∃ s, b.names[k] = s := ⟨_, rfl⟩
            obtain ⟨t, ht⟩ : ∃ t, ns[k] = t := ⟨_, rfl⟩
            rw [hs] at e0
            rw [ht] at e3
            have HS := Lib.hid hs
            have HTT := Lib.hid ht
            have hix := fun w' => idx_str (ab := ab) (aoff := aoff) (n := b.names.length) (cap := sc) (show (k : Int) = ((k : Nat) : Int) by rfl) hltb w'
            have hix2 := fun w' => idx_str (ab := bb) (aoff := boff) (n := ns.length) (cap := nc) (show (k : Int) = ((k : Nat) : Int) by rfl) hlt w'
            have hse := str_eq t s
            clear hs ht a5 b5 ac bc
            by_cases hts : t = s
            · have HE2 := Lib.hid (take_eq_step HE.out hlt hltb (by rw [HS.out, HTT.out]; exact hts))
              have hsd : decide (t = s) = true := by simp [hts]
              rw [hsd] at hse
              have hne : (t.toList != s.toList) = false := by simp only [bne, hse]; rfl
              clear hts hsd
              go_wp2_with fail
              go_quiet (fail)
              go_wp2
              go_roundg (ns.length - (k + 1))
              case measure => omega
              case rel => exact ⟨k + 1, by omega, rfl, by go_num, HE2, (by repeat (first | with_reducible exact Below.refl _ _ | with_reducible assumption | with_reducible refine below_dn ?_ _ | with_reducible refine Below.drew ?_ | with_reducible refine Below.alloc ?_ (by first | omega | (simp; done) | (simp; omega) | (simp [drew_size]; done) | (simp [drew_size]; omega)) _ | with_reducible refine Below.setCell ?_ (by first | omega | (simp; done) | (simp; omega) | (simp [drew_size]; done) | (simp [drew_size]; omega)) _))⟩
            · have HNO := Lib.hid (baseIs_no3 (b := b) (ns := ns) (fl := fl) (l := l) (fun h => by subst h; exact hts (HTT.out.symm.trans HS.out)))
              have hsd : decide (t = s) = false := by simp [hts]
              rw [hsd] at hse
              have hne : (t.toList != s.toList) = true := by simp only [bne, hse]; rfl
              clear hts hsd
              go_wp2_with fail
              go_quiet (fail)
              go_wp2
              go_ret
              exact ⟨ret_bool HNO.out.symm, by have := HB.out _ hb; exact (by repeat (first | with_reducible exact Below.refl _ _ | with_reducible assumption | with_reducible refine below_dn ?_ _ | with_reducible refine Below.drew ?_ | with_reducible refine Below.alloc ?_ (by first | omega | (simp; done) | (simp; omega) | (simp [drew_size]; done) | (simp [drew_size]; omega)) _ | with_reducible refine Below.setCell ?_ (by first | omega | (simp; done) | (simp; omega) | (simp [drew_size]; done) | (simp [drew_size]; omega)) _))⟩
          · have HNN := Lib.hid (show b.names = ns by
              have := HE.out
              rw [List.take_of_length_le (by omega), List.take_of_length_le (by have := HLN.out; omega)] at this
              exact this.symm)
            obtain ⟨m, hbk⟩ : ∃ m, bookR b = some m := by obtain ⟨m, e, _⟩ := (baseMay_ok HM.out).trees; exact ⟨m, e⟩
            have HBO := Lib.hid (book_any (HBA.out.below (HB.out _ hb)))
            have HEQ := Lib.hid (baseIs_eq (l := l) HM.out HFL.out HNN.out hbk)
            have hml : m.length ≤ 50000 := (bookR_good hbk).2.2.2
            have HLB := Lib.hid (HL.out.below (HB.out _ hb) (Nat.le_refl _))
            rw [hbk] at HBO
            clear hbk
            go_wp2_with (first
              | (go_at_call 35; (with_reducible refine HBO.out.mono ?_); rintro e w5 ⟨hb5, v5, rfl, ho5⟩; have hb5' := Below.trans' hb hb5 hb.size; obtain ⟨s5, c5, rfl⟩ := ho5.isSlice; have HSE := Lib.hid (refSameEntries_any (ho5.at (by omega)) (HLB.out.below hb5 (Nat.le_refl _))))
              | (go_at_call 39; (with_reducible refine HSE.out.mono ?_); rintro e w6 ⟨rfl, hb6⟩; have hb6' := Below.trans' hb5' hb6 hb5'.size))
            go_ret
            exact ⟨ret_bool HEQ.out.symm, HB.out _ hb6'⟩
      · have e2 : ((b.names.length : Int) != (ns.length : Int)) = true := by simp; omega
        have HNO := Lib.hid (baseIs_no3 (b := b) (ns := ns) (fl := fl) (l := l) (fun h => i2 (by rw [h])))
        clear i1 i2
        go_wp2_with ((go_at_call 10; (with_reducible refine HMAY.out.mono ?_); rintro e w1 ⟨rfl, hb1⟩; obtain ⟨x0', x1', x2', x3', x4', x5', x6', x7'⟩ := HX.out _ hb1))
        go_ret
        exact ⟨ret_bool HNO.out.symm, HB.out _ hb1⟩
    · have e1 : (b.floor != fl) = true := by simp [i1]
      have HNO := Lib.hid (baseIs_no2 (b := b) (ns := ns) (fl := fl) (l := l) i1)
      clear i1
      go_wp2_with ((go_at_call 10; (with_reducible refine HMAY.out.mono ?_); rintro e w1 ⟨rfl, hb1⟩; obtain ⟨x0', x1', x2', x3', x4', x5', x6', x7'⟩ := HX.out _ hb1))
      go_ret
      exact ⟨ret_bool HNO.out.symm, HB.out _ hb1⟩
end Go.Proofs.YtijcaejdgicbmaaDoor
