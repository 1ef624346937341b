/- The walk of builder.rest: what was to go down stays. -/
import Derived.Test.YtalnnghnipoogaaDoorDG
import Derived.Test.YtalnnghnipoogaaDoorInsertI
import Derived.Test.YtalnnghnipoogaaDoorSO
import Derived.Test.YtalnnghnipoogaaDoorAW
namespace Go.Proofs.YtalnnghnipoogaaDoor
open Go.RowKit

theorem restF_some {n : Int} {t t' : Tr} {e : Ent} (h : restF n t e = some t') : ∃ x b, t.at? n = some x ∧ RowOk x.buf ∧ EntOk e ∧ insC x.buf e = some b ∧ t' = setN t n { x with buf := b } := by
  unfold restF at h
  split at h
  · cases h
  · rename_i x hx
    obtain ⟨b, hb, rfl⟩ := Option.map_eq_some_iff.1 h
    unfold insG at hb
    split at hb
    · rename_i hg
      exact ⟨x, b, hx, hg.1, hg.2, hb, rfl⟩
    · cases hb
theorem own_stay {B : Nat} {F F' : Nat → Prop} {w w' : World} {v : Value} {es : List Ent} (h : OwnEnts B w v es) (hs : Stp F F' w w') (hF : ∀ b, v.ownBlock = some b → ¬ F b) : OwnEnts B w' v es ∧ ∀ b, v.ownBlock = some b → ¬ F' b :=
  ⟨h.block fun g hg => (hs.stay (h.lt g hg).2 (hF g hg)).1, fun b hb => (hs.stay (h.lt b hb).2 (hF b hb)).2⟩

def BdPost (M : Nat) (bb : Nat) (F : Nat → Prop) (w : World) (t' : Tr) (w' : World) : Prop := ∃ nv' rs', Bd M w' bb nv' rs' t' ∧ Stp F (Foot bb nv' rs') w w'

set_option maxRecDepth 100000 in
set_option maxHeartbeats 4000000 in
theorem rest_any {M : Nat} {w : World} {bb : Nat} {nv : Value} {rs : List Raw} {t t' : Tr} {n key : Int} {dv : Value} {all : List Ent} (h : Bd M w bb nv rs t) (hd : OwnEnts M w dv all) (hdF : ∀ b, dv.ownBlock = some b → ¬ Foot bb nv rs b) (hl : all.length ≤ 20)
    (hF : (all.filter fun d => decide (key < d.key)).foldlM (restF n) t = some t') :
    Calls Tryd.prog 108 #[.pointer (some ⟨bb, 0, none⟩), .int .i64 n, dv, .int .i64 key] w fun e w' => e = .returned (.tuple #[]) ∧ BdPost M bb (Foot bb nv rs) w t' w' := by
  obtain ⟨ds, dc, rfl⟩ := hd.isSlice
  have HST := Lib.hid (And.intro h (And.intro hd (And.intro hdF hF)))
  clear h hd hdF hF
  go_enter Tryd.func108, Tryd.ntmps108
  go_wp2_with fail
  go_loopg [12] all.length (fun g i wr => ∃ k : Nat, k ≤ all.length ∧ g = all.length - k ∧ i = .int .i64 k ∧ Hid (∃ nv' rs' tk, Bd M wr bb nv' rs' tk ∧ Stp (Foot bb nv rs) (Foot bb nv' rs') w wr ∧ OwnEnts M wr (.slice ds all.length dc) all ∧ (∀ b, (Value.slice ds all.length dc).ownBlock = some b → ¬ Foot bb nv' rs' b) ∧ ((all.drop k).filter fun d => decide (key < d.key)).foldlM (restF n) tk = some t'))
  case atStart => exact ⟨0, Nat.zero_le _, rfl, rfl, Lib.hid ⟨nv, rs, t, HST.out.1, Stp.refl _ _, HST.out.2.1, HST.out.2.2.1, HST.out.2.2.2⟩⟩
  case round =>
    clear HST
    obtain ⟨k, hk, rfl, rfl, HR⟩ := hrel
    obtain ⟨nv', rs', tk, hB, hS, ho, hoF, hf⟩ := HR.out
    by_cases hlt2 : k < all.length
    · obtain ⟨_, _, hv, -, -, -, -, h5⟩ := ho.at (by omega)
      injection hv with hv1 _ hv3
      subst hv3
      obtain ⟨eb, eoff, hla, heb, hec⟩ := h5 (by omega)
      subst hla
      subst hv1
      obtain ⟨y0, y1, y2, y3, y4, y5, y6⟩ := ent_cells (Below.refl _ _) heb hec hlt2
      obtain ⟨y, hy⟩ : ∃ y, all[k] = y := ⟨_, rfl⟩
      rw [hy] at y0 y1 y2 y3 y4 y5 y6
      rw [List.drop_eq_getElem_cons hlt2, hy] at hf
      obtain ⟨W8, hW8⟩ : ∃ W8, W8 = wr.alloc (.cells #[.int .i64 y.key, .int .i64 y.is.c, .int .i64 y.is.s, .int .i64 y.is.mi, .int .i64 y.is.ma, .int .i64 y.is.t, .int .i64 y.is.l] 89) := ⟨_, rfl⟩
      have hb8 : Below wr.heap.size wr W8 := by rw [hW8]; exact belowAuto
      have hz8 : W8.heap.size = wr.heap.size + 1 := by rw [hW8]; simp
      have k8 : W8.heap[wr.heap.size]? = some (.cells #[.int .i64 y.key, .int .i64 y.is.c, .int .i64 y.is.s, .int .i64 y.is.mi, .int .i64 y.is.ma, .int .i64 y.is.t, .int .i64 y.is.l] 89) := by rw [hW8]; exact heap_new _ _ rfl
      have hB8 := hB.below hb8 (Nat.le_refl _)
      have hS8 := hS.trans (Stp.of (F := Foot bb nv' rs') hb8 (Nat.le_refl _))
      have ho8 := ho.below hb8 (Nat.le_refl _)
      have hF8 : ¬ Foot bb nv' rs' wr.heap.size := fun hf => by have := (hB.lt _ hf).2; omega
      have hix := fun w' => idx_ents (ab := eb) (aoff := eoff) (n := all.length) (cap := dc) (show (k : Int) = ((k : Nat) : Int) by rfl) hlt2 w'
      have s0 : W8.cell? ⟨wr.heap.size, 0, none⟩ = some (.int .i64 y.key) := by simp [World.cell?, k8]
      have HK8 := Lib.hid k8
      have HALL := Lib.hid (And.intro hB8 (And.intro hS8 (And.intro ho8 hoF)))
      have HF8 := Lib.hid hF8
      go_upto_region 3 with (fail)
      rw [← hW8]
      clear hB hS ho hoF hW8 hB8 hS8 ho8 hec h5 hy y0 y1 y2 y3 y4 y5 y6 k8 hix HR hF8
      by_cases i1 : key < y.key
      · rw [List.filter_cons_of_pos (by simpa using i1), List.foldlM_cons] at hf
        cases hr : restF n tk y with
        | none => rw [hr] at hf; cases hf
        | some t1 =>
          rw [hr] at hf
          have HREST := Lib.hid (show ((all.drop (k + 1)).filter fun d => decide (key < d.key)).foldlM (restF n) t1 = some t' from hf)
          obtain ⟨x, b, hx, hrow, hent, hins, ht1⟩ := restF_some hr
          obtain ⟨hB8, hS8, ho8, hoF⟩ := HALL.out
          obtain ⟨j, nb, cap, r, rfl, rfl, hrj, hxj, hjl, hown⟩ := hB8.place hx
          obtain ⟨c0, -, -, -, -, c4, cfn, cfb, hbl, hnl, hbn⟩ := hB8.cells hrj
          obtain ⟨bs, bc, hbv⟩ := hown.buf.isSlice
          rw [hbv] at c4
          have hm := merged_any (w := W8.drew) (x := y) (OwnEnts.drew (hbv ▸ hown.buf)) (by have := hB8.low; show M ≤ W8.heap.size; omega) (by have := hrow.2.2.2; omega) hrow.1 (fun e he => (hrow.2.1 e he).2) hent.2.1 hrow.2.2.1 hent.2.2
          rw [hins] at hm
          have HM := Lib.hid hm
          have hixn := fun w' => idx_node (ab := nb) (aoff := 0) (n := rs'.length) (cap := cap) (show (j : Int) = ((j : Nat) : Int) by rfl) hjl w'
          simp only [Nat.zero_add] at hixn
          have HSW := Lib.hid fun (W : World) (hT : Turn (fun b => (Value.slice bs x.buf.length bc).ownBlock = some b) W8 W) => (by
            have g1 : ∀ b, b < W8.heap.size → (Value.slice bs x.buf.length bc).ownBlock ≠ some b → ∀ o, W.cell? ⟨b, o, none⟩ = W8.cell? ⟨b, o, none⟩ := fun b hb hne o => hT.cell hb hne o
            have hsl : ∀ b, (Value.slice bs x.buf.length bc).ownBlock = some b → b ≠ bb ∧ b ≠ nb ∧ b ≠ wr.heap.size := fun b hb => by
              rw [← hbv] at hb
              have := hB8.off j r 3 b hrj hb
              exact ⟨this.1, fun e => this.2 (by rw [e]; rfl), fun e => HF8.out (by rw [← e]; exact .inr (.inr ⟨j, r, 3, hrj, hb⟩))⟩
            have e1 := g1 bb hbl (fun h => (hsl bb h).1 rfl)
            have e2 := g1 nb hnl (fun h => (hsl nb h).2.1 rfl)
            have e3 := g1 wr.heap.size (by omega) (fun h => (hsl _ h).2.2 rfl)
            refine ⟨(e1 0).trans c0, (e2 _).trans c4, ?_⟩
            rw [e3, e3, e3, e3, e3, e3, e3]
            simp [World.cell?, HK8.out] : W.cell? ⟨bb, 0, none⟩ = some (.slice (some ⟨nb, 0, none⟩) rs'.length cap) ∧ W.cell? ⟨nb, j * 5 + 4, none⟩ = some (.slice bs x.buf.length bc) ∧ W.cell? ⟨wr.heap.size, 0, none⟩ = some (.int .i64 y.key) ∧ W.cell? ⟨wr.heap.size, 1, none⟩ = some (.int .i64 y.is.c) ∧ W.cell? ⟨wr.heap.size, 2, none⟩ = some (.int .i64 y.is.s) ∧ W.cell? ⟨wr.heap.size, 3, none⟩ = some (.int .i64 y.is.mi) ∧ W.cell? ⟨wr.heap.size, 4, none⟩ = some (.int .i64 y.is.ma) ∧ W.cell? ⟨wr.heap.size, 5, none⟩ = some (.int .i64 y.is.t) ∧ W.cell? ⟨wr.heap.size, 6, none⟩ = some (.int .i64 y.is.l))
          have HFZ := Lib.hid fun (W : World) (hT : Turn (fun b => (Value.slice bs x.buf.length bc).ownBlock = some b) W8 W) => (by
            have hne : (Value.slice bs x.buf.length bc).ownBlock ≠ some nb := fun h => by rw [← hbv] at h; exact (hB8.off j r 3 nb hrj h).2 rfl
            exact fun o => (hT.frozen hnl hne o).trans (cfn o) : ∀ o, W.frozen? ⟨nb, o, none⟩ = false)
          have HNX := Lib.hid fun (W : World) (v' : Value) (hT : Turn (fun b => (Value.slice bs x.buf.length bc).ownBlock = some b) W8 W) (hv : OwnEnts M W v' b) (hv' : ∀ b, v'.ownBlock = some b → (Value.slice bs x.buf.length bc).ownBlock = some b ∨ W8.heap.size ≤ b) => (by
            obtain ⟨q1, q2⟩ := hB8.field (f := 3) rfl hrj hxj (by omega) (w1 := W) (v' := v') (x' := { x with buf := b }) (by show Turn (fun b => r.bv.ownBlock = some b) W8 W; rw [hbv]; exact hT) hv.row (by show ∀ b, v'.ownBlock = some b → r.bv.ownBlock = some b ∨ _; rw [hbv]; exact hv') rfl (fun g hg => by
              rcases Nat.lt_or_ge g 4 with h4 | h4
              · rcases lt4 h4 with rfl | rfl | rfl | rfl <;> first | exact ⟨rfl, rfl⟩ | exact absurd rfl hg
              · obtain ⟨k, rfl⟩ : ∃ k, g = k + 4 := ⟨g - 4, by omega⟩; exact ⟨rfl, rfl⟩) rfl
            obtain ⟨q3, q4⟩ := own_stay ho8 q2 hoF
            exact ⟨_, _, t1, ht1 ▸ q1, hS8.trans q2, q3, q4, HREST.out⟩ : ∃ nv' rs' tk, Bd M (W.setCell ⟨nb, j * 5 + 4, none⟩ v') bb nv' rs' tk ∧ Stp (Foot bb nv rs) (Foot bb nv' rs') w (W.setCell ⟨nb, j * 5 + 4, none⟩ v') ∧ OwnEnts M (W.setCell ⟨nb, j * 5 + 4, none⟩ v') (.slice (some ⟨eb, eoff, none⟩) all.length dc) all ∧ (∀ b, (Value.slice (some ⟨eb, eoff, none⟩) all.length dc).ownBlock = some b → ¬ Foot bb nv' rs' b) ∧ ((all.drop (k + 1)).filter fun d => decide (key < d.key)).foldlM (restF (j : Int)) tk = some t')
          clear hB8 hS8 ho8 hoF hx hrow hent hins ht1 hrj hxj hown hbv c0 c4 cfn cfb hm hr hf
          go_wp2_with fail
          refine wp_region_sched [(0, 1), (1, 1), (2, 1), (3, 1), (4, 0), (5, 1), (6, 1), (7, 1), (8, 1), (9, 1), (10, 0), (11, 1), (12, 1), (13, 1), (14, 0), (15, 0), (16, 2), (17, 1), (18, 1), (19, 1), (20, 1), (21, 1), (22, 3)] 22
            (fun W => W.cell? ⟨bb, 0, none⟩ = some (.slice (some ⟨nb, 0, none⟩) rs'.length cap) ∧ W.cell? ⟨nb, j * 5 + 4, none⟩ = some (.slice bs x.buf.length bc) ∧ W.cell? ⟨wr.heap.size, 0, none⟩ = some (.int .i64 y.key) ∧ W.cell? ⟨wr.heap.size, 1, none⟩ = some (.int .i64 y.is.c) ∧ W.cell? ⟨wr.heap.size, 2, none⟩ = some (.int .i64 y.is.s) ∧ W.cell? ⟨wr.heap.size, 3, none⟩ = some (.int .i64 y.is.mi) ∧ W.cell? ⟨wr.heap.size, 4, none⟩ = some (.int .i64 y.is.ma) ∧ W.cell? ⟨wr.heap.size, 5, none⟩ = some (.int .i64 y.is.t) ∧ W.cell? ⟨wr.heap.size, 6, none⟩ = some (.int .i64 y.is.l)) (by kernel_rfl) (by kernel_rfl) (HSW.out _ (Turn.drew (Turn.refl _ _))) ?_
          (simp only [pickS, List.filterMap_cons, List.filterMap_nil, List.getElem?_cons_zero, List.getElem?_cons_succ, Option.map_some])
          (repeat (first | ((refine sched_pure (v := ?_) rfl (fun W => ?_) ?_); rotate_left; focus (go_simp; (try with_reducible rfl); done)) | ((refine sched_read (v := ?_) rfl (fun W hW => ?_) ?_); rotate_left; focus ((try dsimp only at hW); go_simp; (try with_reducible rfl); done))))
          refine sched_does rfl (fun K hK => ?_)
          go_simp
          (with_reducible refine HM.out.mono ?_); rintro e w5 ⟨ht5, v5, rfl, ho5, hv5⟩
          have ht5' : Turn (fun b => (Value.slice bs x.buf.length bc).ownBlock = some b) W8 w5 := (Turn.drew (Turn.refl _ _)).trans ht5
          go_simp
          refine hK _ _ (HSW.out _ ht5') ?_
          clear hK K
          have HV := Lib.hid (HNX.out w5 v5 ht5' ho5 hv5)
          have hfz := HFZ.out _ ht5' (j * 5 + 4)
          obtain ⟨-, hc4, -⟩ := HSW.out _ ht5'
          obtain ⟨s5, c5, rfl⟩ := ho5.isSlice
          clear ht5 ho5 hv5
          (repeat (first | ((refine sched_pure (v := ?_) rfl (fun W => ?_) ?_); rotate_left; focus (go_simp; (try with_reducible rfl); done)) | ((refine sched_read (v := ?_) rfl (fun W hW => ?_) ?_); rotate_left; focus ((try dsimp only at hW); go_simp; (try with_reducible rfl); done))))
          refine sched_last rfl (fun K hK => ?_)
          go_simp
          refine hK _ _ ?_
          clear hK K
          refine sched_end ?_
          go_wp2
          go_roundg (all.length - (k + 1))
          case measure => omega
          case rel => exact ⟨k + 1, by omega, rfl, by go_num, HV⟩
      · rw [List.filter_cons_of_neg (by simpa using i1)] at hf
        have HV := Lib.hid (by exact ⟨_, _, tk, HALL.out.1, HALL.out.2.1, HALL.out.2.2.1, HALL.out.2.2.2, hf⟩ : ∃ nv' rs' tk, Bd M W8 bb nv' rs' tk ∧ Stp (Foot bb nv rs) (Foot bb nv' rs') w W8 ∧ OwnEnts M W8 (.slice (some ⟨eb, eoff, none⟩) all.length dc) all ∧ (∀ b, (Value.slice (some ⟨eb, eoff, none⟩) all.length dc).ownBlock = some b → ¬ Foot bb nv' rs' b) ∧ ((all.drop (k + 1)).filter fun d => decide (key < d.key)).foldlM (restF n) tk = some t')
        have i1' : y.key ≤ key := by omega
        clear hf i1
        go_wp2
        go_roundg (all.length - (k + 1))
        case measure => omega
        case rel => exact ⟨k + 1, by omega, rfl, by go_num, HV⟩
    · rw [List.drop_eq_nil_of_le (by omega)] at hf
      obtain rfl := Option.some.inj hf
      have HV := Lib.hid (show BdPost M bb (Foot bb nv rs) w tk wr from ⟨_, _, hB, hS⟩)
      clear hB hS ho hoF HR hf
      go_wp2
      go_end0
      exact ⟨rfl, HV.out⟩
end Go.Proofs.YtalnnghnipoogaaDoor
