/- slices.Reverse on a row of entries that is one's own. -/
import Derived.Test.YtggcinmjmkfboaaDoorEX
import Derived.RegionTactic
import Derived.BigRegion
namespace Go.Proofs.YtggcinmjmkfboaaDoor
open Go.RowKit

/-- An entry laid into a row. -/
def putEnt (w : World) (g o : Nat) (x : Ent) : World := (((((((w.setCell ⟨g, o, none⟩ (.int .i64 x.key)).setCell ⟨g, o + 1, none⟩ (.int .i64 x.is.c)).setCell ⟨g, o + 2, none⟩ (.int .i64 x.is.s)).setCell ⟨g, o + 3, none⟩ (.int .i64 x.is.mi)).setCell ⟨g, o + 4, none⟩ (.int .i64 x.is.ma)).setCell ⟨g, o + 5, none⟩ (.int .i64 x.is.t)).setCell ⟨g, o + 6, none⟩ (.int .i64 x.is.l))
theorem putEnt_other {w : World} {g o b : Nat} {x : Ent} (h : b ≠ g) : (putEnt w g o x).heap[b]? = w.heap[b]? := by
  unfold putEnt
  refine (heap_setCell_other _ ⟨g, _, none⟩ b _ h).trans ((heap_setCell_other _ ⟨g, _, none⟩ b _ h).trans ((heap_setCell_other _ ⟨g, _, none⟩ b _ h).trans ((heap_setCell_other _ ⟨g, _, none⟩ b _ h).trans ((heap_setCell_other _ ⟨g, _, none⟩ b _ h).trans ((heap_setCell_other _ ⟨g, _, none⟩ b _ h).trans (heap_setCell_other _ ⟨g, _, none⟩ b _ h))))))
theorem putEnt_size {w : World} {g o : Nat} {x : Ent} : (putEnt w g o x).heap.size = w.heap.size := by unfold putEnt; simp only [heap_setCell_size]
theorem putEnt_below {B : Nat} {w0 w : World} {g o : Nat} {x : Ent} (h : Below B w0 w) (hg : B ≤ g) : Below B w0 (putEnt w g o x) :=
  ((((((h.setCell hg _).setCell hg _).setCell hg _).setCell hg _).setCell hg _).setCell hg _).setCell hg _
theorem rev_step {es es' : List Ent} {i j : Nat} {x y : Ent} (hlen : es'.length = es.length) (hj : i + j + 1 = es.length) (hij : i < j) (hx : es'[i]? = some x) (hy : es'[j]? = some y)
    (hat : ∀ k, k < es.length → es'[k]? = if k < i ∨ es.length - 1 - i < k then es[es.length - 1 - k]? else es[k]?) {k : Nat} (hk : k < es.length) :
    ((es'.set i y).set j x)[k]? = if k < i + 1 ∨ es.length - 1 - (i + 1) < k then es[es.length - 1 - k]? else es[k]? := by
  have hxi := hat i (by omega)
  have hyj := hat j (by omega)
  rw [if_neg (by omega), hx] at hxi
  rw [if_neg (by omega), hy] at hyj
  by_cases h1 : k = j
  · subst h1
    rw [if_pos (by omega), List.getElem?_set_self (by rw [List.length_set]; omega), hxi]
    congr 1; omega
  · rw [List.getElem?_set_ne (by omega)]
    by_cases h2 : k = i
    · subst h2
      rw [if_pos (by omega), List.getElem?_set_self (by omega), hyj]
      congr 1; omega
    · rw [List.getElem?_set_ne (by omega), hat k hk]
      by_cases h3 : k < i ∨ es.length - 1 - i < k
      · rw [if_pos h3, if_pos (by omega)]
      · rw [if_neg h3, if_neg (by omega)]
theorem rev_end {es es' : List Ent} {i : Nat} (hlen : es'.length = es.length) (hi : es.length ≤ i + i + 1)
    (hat : ∀ k, k < es.length → es'[k]? = if k < i ∨ es.length - 1 - i < k then es[es.length - 1 - k]? else es[k]?) : es' = es.reverse := by
  refine List.ext_getElem? fun k => ?_
  by_cases hk : k < es.length
  · rw [hat k hk, List.getElem?_reverse hk]
    by_cases h3 : k < i ∨ es.length - 1 - i < k
    · rw [if_pos h3]
    · rw [if_neg h3]; congr 1; omega
  · rw [List.getElem?_eq_none (by omega), List.getElem?_eq_none (by rw [List.length_reverse]; omega)]
set_option maxRecDepth 100000 in
set_option maxHeartbeats 4000000 in
theorem reverse_any {B g cap : Nat} {es : List Ent} {w : World} (h : OwnEnts B w (.slice (some ⟨g, 0, none⟩) es.length cap) es) (hl : es.length ≤ 100000) (_hB : B ≤ w.heap.size) :
    Calls Tryd.prog 26 #[.slice (some ⟨g, 0, none⟩) es.length cap] w fun e w' => e = .returned (.tuple #[]) ∧ Below B w w' ∧ (∀ b, b ≠ g → w'.heap[b]? = w.heap[b]?) ∧ w'.heap.size = w.heap.size ∧ OwnEnts B w' (.slice (some ⟨g, 0, none⟩) es.length cap) es.reverse := by
  have hgz := h.lt g rfl
  have HO := Lib.hid h
  have hw1 : IntKind.i64.wrap ((es.length : Int) - 1) = (es.length : Int) - 1 := IntWalk.i64_in _ (by omega)
  clear h
  go_enter Tryd.func26, Tryd.ntmps26
  go_wp2
  go_loopg [2, 3] (es.length + 1) (fun n a c wr => ∃ i : Nat, 2 * i ≤ es.length + 1 ∧ n = es.length + 1 - i ∧ a = .int .i64 i ∧ c = .int .i64 ((es.length : Int) - 1 - i) ∧ Hid (Below B w wr ∧ (∀ b, b ≠ g → wr.heap[b]? = w.heap[b]?) ∧ wr.heap.size = w.heap.size ∧
    ∃ es', es'.length = es.length ∧ OwnEnts B wr (.slice (some ⟨g, 0, none⟩) es.length cap) es' ∧ ∀ k, k < es.length → es'[k]? = if k < i ∨ es.length - 1 - i < k then es[es.length - 1 - k]? else es[k]?))
  case atStart => exact ⟨0, by omega, rfl, rfl, by go_num, Lib.hid ⟨Below.refl _ _, fun _ _ => rfl, rfl, es, rfl, HO.out, fun k hk => by rw [if_neg (by omega)]⟩⟩
  case round =>
    obtain ⟨i, hi, rfl, rfl, rfl, HR⟩ := hrel
    by_cases hlt : (i : Int) < (es.length : Int) - 1 - i
    · obtain ⟨hbr, hob, hsz, es', hlen, ho, hat⟩ := HR.out
      obtain ⟨j, hj⟩ : ∃ j : Nat, (es.length : Int) - 1 - i = (j : Int) := ⟨es.length - 1 - i, by omega⟩
      have hi' : i < es'.length := by omega
      have hj' : j < es'.length := by omega
      have HH := Lib.hid (And.intro hbr (And.intro hob (And.intro hsz (And.intro hlen hat))))
      obtain ⟨x, hx⟩ : ∃ x, es'[i] = x := ⟨_, rfl⟩
      obtain ⟨y, hy⟩ : ∃ y, es'[j] = y := ⟨_, rfl⟩
      have HXY := Lib.hid (And.intro hx hy)
      obtain ⟨_, _, hv, -, -, -, -, p5⟩ := ho.at (by omega)
      injection hv with hv1 hv2 hv3
      subst hv3
      clear hv2
      obtain ⟨eb, eoff, hla, heb, hec⟩ := p5 (by omega)
      rw [← hv1] at hla
      injection hla with hla; injection hla with e1 e2
      subst e1 e2
      obtain ⟨c0, c1, c2, c3, c4, c5, c6⟩ := ent_cells (Below.refl _ _) heb hec hi'
      obtain ⟨d0, d1, d2, d3, d4, d5, d6⟩ := ent_cells (Below.refl _ _) heb hec hj'
      obtain ⟨hrl, ⟨p1, -⟩ | ⟨g', cap', cur', p1, -, pg, -, p3, p4, -⟩⟩ := ho.row
      · cases p1
      injection p1 with e1 e2 e3
      injection e1 with e1; injection e1 with e1
      subst e1 e3
      clear e2
      have zf : ∀ o, wr.frozen? ⟨g, o, none⟩ = false := fun o => by simp [World.frozen?, pg]
      rw [hx] at c0 c1 c2 c3 c4 c5 c6
      rw [hy] at d0 d1 d2 d3 d4 d5 d6
      have hix := fun w' => idx_ents (ab := g) (aoff := 0) (n := es.length) (cap := cap) (show (i : Int) = ((i : Nat) : Int) by rfl) (by omega) w'
      have hjx := fun w' => idx_ents (ab := g) (aoff := 0) (n := es.length) (cap := cap) (show (j : Int) = ((j : Nat) : Int) by rfl) (by omega) w'
      simp only [Nat.zero_add] at c0 c1 c2 c3 c4 c5 c6 d0 d1 d2 d3 d4 d5 d6 hix hjx
      rw [hj] at hlt ⊢
      have HO2 := Lib.hid ho
      have hwi : IntKind.i64.wrap ((i : Int) + 1) = (i : Int) + 1 := IntWalk.i64_in _ (by omega)
      have hwj : IntKind.i64.wrap ((j : Int) - 1) = (j : Int) - 1 := IntWalk.i64_in _ (by omega)
      have HJ := Lib.hid hj
      clear hec p5 hv1 hx hy hat hlen hob hbr ho pg p4 hrl p3 hj hsz
      go_upto_region 3 with (fail)
      go_region
      obtain ⟨hbr, hob, hsz, hlen, hat⟩ := HH.out
      have p1 := HO2.out.place (x := y) hlen.symm hi'
      have p2 := p1.place (x := x) (i := j) (by rw [List.length_set]; exact hlen.symm) (by rw [List.length_set]; exact hj')
      have HWW := Lib.hid (show Below B w (putEnt (putEnt wr g (i * 7) y) g (j * 7) x) ∧ (∀ b, b ≠ g → (putEnt (putEnt wr g (i * 7) y) g (j * 7) x).heap[b]? = w.heap[b]?) ∧ (putEnt (putEnt wr g (i * 7) y) g (j * 7) x).heap.size = w.heap.size ∧ OwnEnts B (putEnt (putEnt wr g (i * 7) y) g (j * 7) x) (.slice (some ⟨g, 0, none⟩) es.length cap) ((es'.set i y).set j x) from
        ⟨putEnt_below (putEnt_below hbr hgz.1) hgz.1, fun b hb => (putEnt_other hb).trans ((putEnt_other hb).trans (hob b hb)), putEnt_size.trans (putEnt_size.trans hsz), p2⟩)
      have HAT := Lib.hid hat
      have hJ := HJ.out
      have ej : (j : Int) - 1 = (es.length : Int) - 1 - ((i + 1 : Nat) : Int) := by omega
      have hW : ((((((((((((((wr.setCell ⟨g, i * 7, none⟩ (.int .i64 y.key)).setCell ⟨g, i * 7 + 1, none⟩ (.int .i64 y.is.c)).setCell ⟨g, i * 7 + 2, none⟩ (.int .i64 y.is.s)).setCell ⟨g, i * 7 + 3, none⟩ (.int .i64 y.is.mi)).setCell ⟨g, i * 7 + 4, none⟩ (.int .i64 y.is.ma)).setCell ⟨g, i * 7 + 5, none⟩ (.int .i64 y.is.t)).setCell ⟨g, i * 7 + 6, none⟩ (.int .i64 y.is.l)).setCell ⟨g, j * 7, none⟩ (.int .i64 x.key)).setCell ⟨g, j * 7 + 1, none⟩ (.int .i64 x.is.c)).setCell ⟨g, j * 7 + 2, none⟩ (.int .i64 x.is.s)).setCell ⟨g, j * 7 + 3, none⟩ (.int .i64 x.is.mi)).setCell ⟨g, j * 7 + 4, none⟩ (.int .i64 x.is.ma)).setCell ⟨g, j * 7 + 5, none⟩ (.int .i64 x.is.t)).setCell ⟨g, j * 7 + 6, none⟩ (.int .i64 x.is.l)) = putEnt (putEnt wr g (i * 7) y) g (j * 7) x := rfl
      rw [hW]
      generalize putEnt (putEnt wr g (i * 7) y) g (j * 7) x = W5 at HWW ⊢
      clear p1 p2 hat hbr hob hsz hW c0 c1 c2 c3 c4 c5 c6 d0 d1 d2 d3 d4 d5 d6 zf HR
      go_wp2_with fail
      go_roundg (es.length + 1 - (i + 1))
      case measure => omega
      case rel =>
        obtain ⟨e1, e2, e3, e4⟩ := HWW.out
        refine ⟨i + 1, by omega, rfl, by go_num, congrArg (Value.int .i64) (by omega), Lib.hid ⟨e1.drew, e2, e3, (es'.set i y).set j x, by rw [List.length_set, List.length_set]; exact hlen, e4.drew, fun k hk => ?_⟩⟩
        exact rev_step hlen (by omega) (by omega) (by rw [List.getElem?_eq_getElem hi', HXY.out.1]) (by rw [List.getElem?_eq_getElem hj', HXY.out.2]) HAT.out hk
    · obtain ⟨hbr, hob, hsz, es', hlen, ho, hat⟩ := HR.out
      have HE := Lib.hid (And.intro hbr (And.intro hob (And.intro hsz (rev_end hlen (by omega) hat ▸ ho))))
      clear hbr hob hsz hlen ho hat HR
      go_wp2
      go_end0
      exact ⟨rfl, HE.out⟩
end Go.Proofs.YtggcinmjmkfboaaDoor
