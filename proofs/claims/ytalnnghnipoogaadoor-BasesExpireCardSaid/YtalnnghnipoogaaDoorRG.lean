/- Texts of mine that come as one: RowsP RowsM. -/
import Derived.Test.YtalnnghnipoogaaDoorBK
import Derived.Test.YtalnnghnipoogaaDoorPS
import Derived.Test.YtalnnghnipoogaaDoorKG
import Derived.Test.YtalnnghnipoogaaDoorEnts
import Derived.Test.YtalnnghnipoogaaDoorSN
/- Rows and totals of a series: what the document computes, and that the trees of a base that may be know it. No program in sight. -/
namespace Go.Proofs.YtalnnghnipoogaaDoor

theorem look_filter {p : Int → Bool} (l : List Ent) (k : Int) : look (l.filter fun e => p e.key) k = if p k = true then look l k else Roll.zero := by
  induction l with
  | nil => simp [look]
  | cons e l ih =>
    by_cases h : p e.key = true
    · rw [List.filter_cons_of_pos (by simpa using h)]
      simp only [look]
      by_cases hk : e.key = k
      · rw [if_pos hk, if_pos hk, ih]
        subst hk
        rw [if_pos h, if_pos h]
      · rw [if_neg hk, if_neg hk, ih]
    · rw [List.filter_cons_of_neg (by simpa using h), ih]
      simp only [look]
      by_cases hk : e.key = k
      · subst hk; rw [if_neg h, if_neg h]
      · rw [if_neg hk]
theorem rising_filter {l : List Ent} (h : Rising l) (p : Ent → Bool) : Rising (l.filter p) := List.Pairwise.sublist List.filter_sublist h
theorem goods_filter {l : List Ent} (h : Goods l) (p : Ent → Bool) : Goods (l.filter p) := fun e he => h e (List.mem_filter.1 he).1
theorem bagC_filter {l es : List Ent} (hl : Checked l) (h : bagC l = some es) (p : Int → Bool) : bagC (l.filter fun e => p e.key) = some (es.filter fun e => p e.key) := by
  obtain ⟨h1, h2, _, _, h5⟩ := bagC_some hl h
  have hs : Small (l.filter fun e => p e.key) := fun k => by
    rw [look_filter]
    split
    · exact h2 k
    · decide
  rw [bagC_eq (checked_filter hl), if_pos hs]
  congr 1
  refine look_ext (bag_rising (goods_filter hl.goods _)) (rising_filter h5 _) (bag_goods (goods_filter hl.goods _)) (goods_filter (by rw [h1]; exact bag_goods hl.goods) _) fun k => ?_
  rw [look_bag (goods_filter hl.goods _), look_filter, look_filter, h1, look_bag hl.goods]
theorem allR_sub {t : Tr} {m : List Ent} (h : allT t = some m) (lo hi : Int) : treeFault t = 0 ∧ allR t lo hi = some (m.filter (inRange lo hi)) := by
  unfold allT at h
  split at h
  · rename_i hf
    refine ⟨hf, ?_⟩
    obtain ⟨_, hv⟩ := treeFault_ok hf
    unfold allR at *
    have hall : t.all.filter (inRange 0 1099511627776) = t.all := List.filter_eq_self.2 fun e he => by
      have := valid_range hv e he
      simp [inRange]; omega
    rw [hall] at h
    exact bagC_filter (valid_checked hv) h fun k => decide (lo ≤ k) && decide (k < hi)
  · cases h
theorem base_knows {b : Ba} (h : baseMay b = true) : ∃ l, bookR b = some l ∧ Rising l ∧ PGood l ∧ ∀ k, k < 3 → ∃ m, rolledR l (szOf k) = some m ∧ allT (b.tree k) = some m := by
  obtain ⟨l, hl, ht⟩ := (baseMay_ok h).trees
  refine ⟨l, hl, (bookR_good hl).1, (bookR_good hl).2, fun k hk => ?_⟩
  have := ht k hk
  unfold treeOk at this
  cases h1 : rolledR l (szOf k) with
  | none => rw [h1] at this; cases this
  | some a =>
    cases h2 : allT (b.tree k) with
    | none => rw [h1, h2] at this; cases this
    | some c =>
      rw [h1, h2] at this
      have hac : a = c := by simpa using this
      exact ⟨a, rfl, by rw [hac]⟩

noncomputable def seriesE (b : Ba) (s : ByteArray) : Int := if baseMay b = true then (if placeI b.names s < 0 then 6 else 0) else 7
def inRow (p a z : Int) (e : Ent) : Bool := decide (e.key / 1048576 = p) && inR (e.key % 1048576) a z
def rowOf (e : Ent) : Ent := ⟨e.key % 1048576, e.is⟩
def rowsOk (a z : Int) : Prop := 0 ≤ a ∧ a ≤ z ∧ z ≤ 1048575
instance (a z : Int) : Decidable (rowsOk a z) := by unfold rowsOk; infer_instance
noncomputable def rowsL (b : Ba) (s : ByteArray) (size a z : Int) : List Ent :=
  match bookR b with | none => [] | some l => match rolledR l size with | none => [] | some m => (m.filter (inRow (placeI b.names s) a z)).map rowOf
noncomputable def rowsE (b : Ba) (s : ByteArray) (size a z : Int) : Int :=
  if seriesE b s ≠ 0 then seriesE b s else if size ≠ 1 ∧ size ≠ 60 ∧ size ≠ 3600 then 3 else if ¬ rowsOk a z then 2 else if 500 < (rowsL b s size a z).length then 1 else 0
noncomputable def rowsR (b : Ba) (s : ByteArray) (size a z : Int) : List Ent := if rowsE b s size a z = 0 then rowsL b s size a z else []

theorem in_row_range {p a z : Int} (h : rowsOk a z) (e : Ent) : inRow p a z e = inRange (p * 1048576 + a) (p * 1048576 + z + 1) e := by
  obtain ⟨h1, h2, h3⟩ := h
  unfold inRow inRange inR
  rw [Bool.eq_iff_iff]
  simp only [Bool.and_eq_true, decide_eq_true_eq]
  omega
theorem seriesE_cases (b : Ba) (s : ByteArray) : (seriesE b s = 7 ∧ baseMay b = false) ∨ (seriesE b s = 6 ∧ baseMay b = true ∧ placeI b.names s = -1) ∨ (seriesE b s = 0 ∧ baseMay b = true ∧ ∃ k : Nat, k < 16 ∧ placeI b.names s = k) := by
  unfold seriesE
  cases h : baseMay b with
  | false => exact .inl ⟨by simp, rfl⟩
  | true =>
    rcases place_cases b.names s with ⟨k, hk, e, _⟩ | ⟨e, _⟩
    · have := (baseMay_ok h).n16
      exact .inr (.inr ⟨by simp only [if_true]; rw [if_neg (by omega)], rfl, k, by omega, e⟩)
    · exact .inr (.inl ⟨by simp only [if_true]; rw [if_pos (by omega)], rfl, e⟩)
theorem rows_filter {b : Ba} {s : ByteArray} {k : Nat} {a z : Int} (h : baseMay b = true) (hk : k < 3) (hr : rowsOk a z) :
    ∃ m, rowsL b s (szOf k) a z = (m.filter (inRange (placeI b.names s * 1048576 + a) (placeI b.names s * 1048576 + z + 1))).map rowOf ∧ treeFault (b.tree k) = 0 ∧
      allR (b.tree k) (placeI b.names s * 1048576 + a) (placeI b.names s * 1048576 + z + 1) = some (m.filter (inRange (placeI b.names s * 1048576 + a) (placeI b.names s * 1048576 + z + 1))) ∧ Rising m ∧ PGood m := by
  obtain ⟨l, hl, _, hg, ht⟩ := base_knows h
  obtain ⟨m, h1, h2⟩ := ht k hk
  obtain ⟨h3, h4⟩ := allR_sub h2 (placeI b.names s * 1048576 + a) (placeI b.names s * 1048576 + z + 1)
  refine ⟨m, ?_, h3, h4, (allT_good h2).1, (allT_good h2).2⟩
  unfold rowsL
  rw [hl]
  simp only
  rw [h1]
  simp only
  congr 1
  exact List.filter_congr fun e _ => in_row_range hr e
end Go.Proofs.YtalnnghnipoogaaDoor

/- Rows of the calls' own; rows compared. -/
namespace Go.Proofs.YtalnnghnipoogaaDoor
open Go.RowKit

theorem Tryd.iRow : (Tryd.prog.info? 57).map (fun i => (i.zero.map (fun z => z.cells.size), i.size, i.bytes)) = some (some 7, 7, 56) := by kernel_rfl
theorem Tryd.sRow : Tryd.prog.underlying 57 = some (.struct (Tryd.prog.fieldsOf 57)) := by kernel_rfl
theorem Tryd.hRow : Tryd.prog.stoodInHeld 57 = false := by kernel_rfl
structure OwnRows (B : Nat) (w : World) (v : Value) (es : List Ent) : Prop where
  row : w.ownsRow B 57 7 v es.length (es.flatMap enEnt)
theorem OwnRows.nil (B : Nat) (w : World) : OwnRows B w (.slice none 0 0) [] := ⟨World.ownsRow_nil _ _ _ _⟩
theorem OwnRows.alloc {B : Nat} {w : World} {v : Value} {es : List Ent} (h : OwnRows B w v es) (o : Obj) : OwnRows B (w.alloc o) v es := ⟨World.ownsRow.alloc h.row o⟩
theorem OwnRows.block {B : Nat} {w w' : World} {v : Value} {es : List Ent} (h : OwnRows B w v es) (hb : ∀ g, v.ownBlock = some g → w'.heap[g]? = w.heap[g]?) : OwnRows B w' v es := by
  obtain ⟨hl, ⟨rfl, h0⟩ | ⟨g, cap, cur, rfl, hB, hg, h1, h2, h3, h4⟩⟩ := h.row
  · exact ⟨⟨hl, .inl ⟨rfl, h0⟩⟩⟩
  · exact ⟨⟨hl, .inr ⟨g, cap, cur, rfl, hB, (hb g rfl).trans hg, h1, h2, h3, h4⟩⟩⟩
theorem OwnRows.drew {B : Nat} {w : World} {v : Value} {es : List Ent} (h : OwnRows B w v es) : OwnRows B w.drew v es := h.block fun _ _ => rfl
theorem OwnRows.drewN {B : Nat} {w : World} {v : Value} {es : List Ent} (h : OwnRows B w v es) (n : Nat) : OwnRows B (w.drewN n) v es := h.block fun _ _ => rfl
theorem OwnRows.lt {B : Nat} {w : World} {v : Value} {es : List Ent} (h : OwnRows B w v es) : ∀ g, v.ownBlock = some g → B ≤ g ∧ g < w.heap.size := World.ownsRow.lt h.row
theorem OwnRows.below {B C : Nat} {w w' : World} {v : Value} {es : List Ent} (h : OwnRows B w v es) (hb : Below C w w') (hC : w.heap.size ≤ C) : OwnRows B w' v es := h.block fun g hg => hb.block g (by have := (h.lt g hg).2; omega)
theorem OwnRows.mono {B C : Nat} {w : World} {v : Value} {es : List Ent} (h : OwnRows B w v es) (hC : C ≤ B) : OwnRows C w v es := by
  obtain ⟨hl, ⟨rfl, h0⟩ | ⟨g, cap, cur, rfl, hB, hg, h1, h2, h3, h4⟩⟩ := h.row
  · exact ⟨⟨hl, .inl ⟨rfl, h0⟩⟩⟩
  · exact ⟨⟨hl, .inr ⟨g, cap, cur, rfl, by omega, hg, h1, h2, h3, h4⟩⟩⟩
theorem OwnRows.at {B : Nat} {w : World} {v : Value} {es : List Ent} (h : OwnRows B w v es) (hs : es.length ≤ 1000000) : EntsAt w v es := SlAt.owned enEnt_length h.row rfl (by omega)
theorem OwnRows.isSlice {B : Nat} {w : World} {v : Value} {es : List Ent} (h : OwnRows B w v es) : ∃ ao cap, v = .slice ao es.length cap := by
  obtain ⟨hl, ⟨rfl, h0⟩ | ⟨g, cap, cur, rfl, _⟩⟩ := h.row
  · exact ⟨none, 0, by rw [h0]⟩
  · exact ⟨_, _, rfl⟩
theorem wpList_append_row {w : World} {ops : Array Oper} {rest : List Oper} {o : Oper} {a : Act} {Q : Exit → Act → World → Prop} (hgd : o.guard = none) (s x : Operand)
    (ho : o.op = .call { callee := .builtin .append, args := #[s, x], argTypes := #[50, 50] }) (B : Nat) (v : Value) (es : List Ent) (hs : a.eval s = v) (hown : OwnRows B w v es)
    (ad : Addr) (e : Ent) (hx : a.eval x = .slice (some ad) 1 1) (hnews : ∀ j u, (enEnt e)[j]? = some u → w.cell? (ad.add j) = some u) (hlen : es.length ≤ 1000000) (hbase : B ≤ w.heap.size)
    (h : ∀ v' w', OwnRows B w' v' (es ++ [e]) → (∀ C W, Below C W w → C ≤ B → Below C W w') → wpList Tryd.prog ops Q rest (a.put o.dst v') w') : wpList Tryd.prog ops Q (o :: rest) a w := by
  obtain ⟨i0, z, hi, hz, hz1, hz2, hz3⟩ := info_some Tryd.iRow
  refine wpList_append_own w hgd s x 50 ho B 57 i0 z 7 56 Tryd.underlying50 hi hz hz1 hz2 hz3 (by decide) v es.length _ hs hown.row ad 1 1 (enEnt e) hx rfl hnews (enEnt_one [e] |> fun h u hu => h u (by simpa using hu)) (by unfold maxLen; omega) (by omega) hbase ?_
  intro v' w' hown' hg _
  refine h v' w' ?_ fun C W hb hC => Below.grown hb hg (by omega) (fun j hj => by have := (hown.lt j hj).1; omega)
  have : (es ++ [e]).flatMap enEnt = es.flatMap enEnt ++ enEnt e := by simp
  refine ⟨?_⟩
  rw [this, List.length_append]
  exact hown'
set_option maxRecDepth 100000 in
theorem run_equalIn_row (d : Nat) (e f : Ent) (w : World) : (Op.equalIn (d + 3) 57 (.agg #[.int .i64 e.key, .int .i64 e.is.c, .int .i64 e.is.s, .int .i64 e.is.mi, .int .i64 e.is.ma, .int .i64 e.is.t, .int .i64 e.is.l]) (.agg #[.int .i64 f.key, .int .i64 f.is.c, .int .i64 f.is.s, .int .i64 f.is.mi, .int .i64 f.is.ma, .int .i64 f.is.t, .int .i64 f.is.l])).run Tryd.prog w = .ok (decide (e = f)) w := by
  have u3 := Tryd.underlying3
  have hr := fun w => run_equalIn_roll d e.is f.is w
  rw [run_equalIn_struct w (d + 2) 57 _ _ Tryd.sRow Tryd.hRow]
  simp only [Program.fieldsOf, Tryd.underlying57]
  go_simp
  obtain ⟨e0, e1⟩ := e
  obtain ⟨f0, f1⟩ := f
  simp only [Ent.mk.injEq]
  by_cases h0 : e0 = f0
  · by_cases h1 : e1 = f1 <;> simp [h0, h1]
  · simp [h0]

theorem run_neq_row (e f : Ent) (w : World) : (binOp .neq 57 (.agg #[.int .i64 e.key, .int .i64 e.is.c, .int .i64 e.is.s, .int .i64 e.is.mi, .int .i64 e.is.ma, .int .i64 e.is.t, .int .i64 e.is.l]) (.agg #[.int .i64 f.key, .int .i64 f.is.c, .int .i64 f.is.s, .int .i64 f.is.mi, .int .i64 f.is.ma, .int .i64 f.is.t, .int .i64 f.is.l])).run Tryd.prog w = .ok (.bool (!decide (e = f))) w := by
  rw [run_neq_struct, run_equalIn_row 9997]; rfl
theorem idx_rows {ab aoff n cap j : Nat} {i : Int} (h : i = j) (hj : j < n) (w : World) : (Instr.indexAt 50 (.slice (some ⟨ab, aoff, none⟩) n cap) (.int .i64 i)).run Tryd.prog w = .ok (.pointer (some ⟨ab, aoff + j * 7, none⟩)) w := by
  subst h
  go_simp
end Go.Proofs.YtalnnghnipoogaaDoor
