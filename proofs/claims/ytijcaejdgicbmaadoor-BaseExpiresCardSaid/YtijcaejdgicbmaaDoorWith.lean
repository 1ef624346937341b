/- The walk of the document's WithEntry. -/
import Derived.Test.YtijcaejdgicbmaaDoorPA
import Derived.Test.YtijcaejdgicbmaaDoorKG
import Derived.Test.YtijcaejdgicbmaaDoorRO
import Derived.Test.YtijcaejdgicbmaaDoorSN
import Derived.Deep.RegionHeld3
namespace Go.Proofs.YtijcaejdgicbmaaDoor
open Go.RowKit

/-- What a call that adds an entry leaves. -/
def WithPost (B : Nat) (w : World) (r : Option (List Ent)) (e : Ending) (w' : World) : Prop :=
  Below B w w' ∧ (match r with | none => e = .returned (.tuple #[.slice none 0 0, .int .i64 1]) | some l => ∃ v', e = .returned (.tuple #[v', .int .i64 0]) ∧ OwnEnts B w' v' l)
theorem wpost_none {B : Nat} {w w' : World} {e : Ending} (hb : Below B w w') (he : e = .returned (.tuple #[.slice none 0 0, .int .i64 1])) : WithPost B w none e w' := ⟨hb, he⟩
theorem wpost_some {B : Nat} {w w' : World} {e : Ending} {l : List Ent} {v' : Value} (hb : Below B w w') (he : e = .returned (.tuple #[v', .int .i64 0])) (ho : OwnEnts B w' v' l) : WithPost B w (some l) e w' := ⟨hb, v', he, ho⟩

theorem zero_roll {W w5 : World} {T : TypeId} (BE : Below (W.alloc (.cells #[.int .i64 0, .int .i64 0, .int .i64 0, .int .i64 0, .int .i64 0, .int .i64 0] T)).drew.heap.size (W.alloc (.cells #[.int .i64 0, .int .i64 0, .int .i64 0, .int .i64 0, .int .i64 0, .int .i64 0] T)).drew w5) :
    w5.heap[W.heap.size]? = some (.cells #[.int .i64 0, .int .i64 0, .int .i64 0, .int .i64 0, .int .i64 0, .int .i64 0] T) ∧ w5.cell? ⟨W.heap.size, 0, none⟩ = some (.int .i64 0) ∧ w5.cell? ⟨W.heap.size, 1, none⟩ = some (.int .i64 0) ∧ w5.cell? ⟨W.heap.size, 2, none⟩ = some (.int .i64 0) ∧ w5.cell? ⟨W.heap.size, 3, none⟩ = some (.int .i64 0) ∧ w5.cell? ⟨W.heap.size, 4, none⟩ = some (.int .i64 0) ∧ w5.cell? ⟨W.heap.size, 5, none⟩ = some (.int .i64 0) ∧ ∀ o, w5.frozen? ⟨W.heap.size, o, none⟩ = false := by
  have h : w5.heap[W.heap.size]? = some (.cells #[.int .i64 0, .int .i64 0, .int .i64 0, .int .i64 0, .int .i64 0, .int .i64 0] T) := (BE.block _ (by simp)).trans (heap_new _ _ rfl)
  simp [h, World.cell?, World.frozen?]

set_option maxRecDepth 100000 in
set_option maxHeartbeats 600000 in
theorem withEntry_any {v : Value} {xs : List Ent} {x : Ent} {w : World} (ha : EntsAt w v xs) (hc : ∀ e ∈ xs, rollCheck e.is = 0) (hx : rollCheck x.is = 0) (hlen : xs.length ≤ 100000) :
    Calls Tryd.prog 61 #[v, .agg #[.int .i64 x.key, .int .i64 x.is.c, .int .i64 x.is.s, .int .i64 x.is.mi, .int .i64 x.is.ma, .int .i64 x.is.t, .int .i64 x.is.l]] w (WithPost w.heap.size w (insC xs x)) := by
  obtain ⟨ao, ca, rfl, a1, a2, a3, a4, a5⟩ := ha
  obtain ⟨W0, hW0⟩ : ∃ W0, W0 = w.alloc (.cells #[.int .i64 x.key, .int .i64 x.is.c, .int .i64 x.is.s, .int .i64 x.is.mi, .int .i64 x.is.ma, .int .i64 x.is.t, .int .i64 x.is.l] 70) := ⟨_, rfl⟩
  have hb0 : Below w.heap.size w W0 := by rw [hW0]; exact (Below.refl _ _).alloc (Nat.le_refl _) _
  have hz0 : W0.heap.size = w.heap.size + 1 := by rw [hW0]; simp
  have k0 : W0.heap[w.heap.size]? = some (.cells #[.int .i64 x.key, .int .i64 x.is.c, .int .i64 x.is.s, .int .i64 x.is.mi, .int .i64 x.is.ma, .int .i64 x.is.t, .int .i64 x.is.l] 70) := by
    rw [hW0]; exact heap_new _ _ rfl
  have HX := Lib.hid fun w' (hb : Below (w.heap.size + 1) W0 w') => (by
    have b0 : w'.heap[w.heap.size]? = _ := (hb.block _ (by omega)).trans k0
    simp [World.cell?, b0] :
    w'.cell? ⟨w.heap.size, 0, none⟩ = some (.int .i64 x.key) ∧ w'.cell? ⟨w.heap.size, 1, none⟩ = some (.int .i64 x.is.c) ∧ w'.cell? ⟨w.heap.size, 2, none⟩ = some (.int .i64 x.is.s) ∧ w'.cell? ⟨w.heap.size, 3, none⟩ = some (.int .i64 x.is.mi) ∧ w'.cell? ⟨w.heap.size, 4, none⟩ = some (.int .i64 x.is.ma) ∧ w'.cell? ⟨w.heap.size, 5, none⟩ = some (.int .i64 x.is.t) ∧ w'.cell? ⟨w.heap.size, 6, none⟩ = some (.int .i64 x.is.l))
  have HB := Lib.hid fun w' (hb : Below (w.heap.size + 1) W0 w') => (Below.trans' hb0 (hb.mono (by omega)) (by omega) : Below w.heap.size w w')
  have hbW := Lib.hid (Below.refl (w.heap.size + 1) W0)
  go_enter Tryd.func61, Tryd.ntmps61
  go_wp2_with fail
  rw [← hW0]
  clear hW0 k0
  go_loopg [6, 7, 8] xs.length (fun g out dn i wr => ∃ (k : Nat) (b : Bool) (es : List Ent), k ≤ xs.length ∧ g = xs.length - k ∧ i = .int .i64 k ∧ dn = .bool b ∧ OwnEnts (w.heap.size + 1) wr out es ∧ Hid (WithRel xs x k b es) ∧ Below (w.heap.size + 1) W0 wr)
  case atStart => exact ⟨0, false, [], Nat.zero_le _, rfl, rfl, rfl, OwnEnts.nil _ _, Lib.hid (withRel_start xs x), hbW.out⟩
  case round =>
    obtain ⟨k, b, es, hk, rfl, rfl, rfl, hown, HREL, hbW'⟩ := hrel
    obtain ⟨so, sc, rfl⟩ := hown.isSlice
    have hbw := HB.out _ hbW'
    have hsz : w.heap.size + 1 ≤ wr.heap.size := by have := hbW'.size; omega
    have hes : es.length ≤ 1000000 := by have := HREL.out.1; omega
    by_cases hlt : k < xs.length
    · obtain ⟨ab, aoff, rfl, abb, ac⟩ := a5 (by omega)
      obtain ⟨e, he⟩ : ∃ e, xs[k] = e := ⟨_, rfl⟩
      have HE := Lib.hid he
      have HCE := Lib.hid (show rollCheck e.is = 0 by rw [← he]; exact hc _ (List.getElem_mem hlt))
      have HK := Lib.hid fun w' (hb : Below (w.heap.size + 1) W0 w') => (by have := ent_cells (HB.out _ hb) abb ac hlt; rw [he] at this; exact this :
        w'.cell? ⟨ab, aoff + k * 7, none⟩ = some (.int .i64 e.key) ∧ w'.cell? ⟨ab, aoff + k * 7 + 1, none⟩ = some (.int .i64 e.is.c) ∧ w'.cell? ⟨ab, aoff + k * 7 + 2, none⟩ = some (.int .i64 e.is.s) ∧ w'.cell? ⟨ab, aoff + k * 7 + 3, none⟩ = some (.int .i64 e.is.mi) ∧ w'.cell? ⟨ab, aoff + k * 7 + 4, none⟩ = some (.int .i64 e.is.ma) ∧ w'.cell? ⟨ab, aoff + k * 7 + 5, none⟩ = some (.int .i64 e.is.t) ∧ w'.cell? ⟨ab, aoff + k * 7 + 6, none⟩ = some (.int .i64 e.is.l))
      obtain ⟨c0, c1, c2, c3, c4, c5, c6⟩ := HK.out _ hbW'
      obtain ⟨x0, x1, x2, x3, x4, x5, x6⟩ := HX.out _ hbW'
      clear he ac a5 hc
      cases b with
      | true =>
        go_wp2_with fail
        go_quiet (fail)
        go_wp2_with ((at_builtin; refine wpList_append_ent rfl (.tmp 62) (.tmp 67) rfl (w.heap.size + 1) _ es rfl (by repeat (first | assumption | with_reducible refine OwnEnts.alloc ?_ _ | with_reducible refine OwnEnts.drewN ?_ _ | with_reducible refine OwnEnts.drew ?_)) ⟨_, 0, none⟩ e rfl (fun j u h => ent_new h) hes (by first | omega | (simp; done) | (simp; omega) | (simp [drew_size]; done) | (simp [drew_size]; omega)) ?_; intro v3 w3 own3 hg3; have hb3 := hg3 (w.heap.size + 1) W0 (by repeat (first | with_reducible exact Below.refl _ _ | with_reducible assumption | with_reducible refine below_dn ?_ _ | with_reducible refine Below.drew ?_ | with_reducible refine Below.alloc ?_ (by first | omega | (simp; done) | (simp; omega) | (simp [drew_size]; done) | (simp [drew_size]; omega)) _ | with_reducible refine Below.setCell ?_ (by first | omega | (simp; done) | (simp; omega) | (simp [drew_size]; done) | (simp [drew_size]; omega)) _)) (Nat.le_refl _)))
        go_roundg (xs.length - (k + 1))
        case measure => omega
        case rel => exact ⟨k + 1, true, es ++ [e], by omega, rfl, by go_num, rfl, own3, Lib.hid (by rw [← HE.out]; exact withRel_done hlt HREL.out), hb3⟩
      | false =>
        by_cases h1 : e.key < x.key
        · have d1 : decide (x.key ≤ e.key) = false := by simpa using h1
          go_wp2_with fail
          go_quiet (fail)
          go_wp2_with ((at_builtin; refine wpList_append_ent rfl (.tmp 62) (.tmp 67) rfl (w.heap.size + 1) _ es rfl (by repeat (first | assumption | with_reducible refine OwnEnts.alloc ?_ _ | with_reducible refine OwnEnts.drewN ?_ _ | with_reducible refine OwnEnts.drew ?_)) ⟨_, 0, none⟩ e rfl (fun j u h => ent_new h) hes (by first | omega | (simp; done) | (simp; omega) | (simp [drew_size]; done) | (simp [drew_size]; omega)) ?_; intro v3 w3 own3 hg3; have hb3 := hg3 (w.heap.size + 1) W0 (by repeat (first | with_reducible exact Below.refl _ _ | with_reducible assumption | with_reducible refine below_dn ?_ _ | with_reducible refine Below.drew ?_ | with_reducible refine Below.alloc ?_ (by first | omega | (simp; done) | (simp; omega) | (simp [drew_size]; done) | (simp [drew_size]; omega)) _ | with_reducible refine Below.setCell ?_ (by first | omega | (simp; done) | (simp; omega) | (simp [drew_size]; done) | (simp [drew_size]; omega)) _)) (Nat.le_refl _)))
          go_roundg (xs.length - (k + 1))
          case measure => omega
          case rel => exact ⟨k + 1, false, es ++ [e], by omega, rfl, by go_num, rfl, own3, Lib.hid (by rw [← HE.out]; exact withRel_less hlt HREL.out (by rw [HE.out]; exact h1)), hb3⟩
        · have d1 : decide (x.key ≤ e.key) = true := by simpa using h1
          by_cases h2 : e.key = x.key
          · have HSAME := Lib.hid (withRel_same hlt HREL.out (by rw [HE.out]; exact h2))
            have d2 : (e.key == x.key) = true := by simp [h2]
            rw [HE.out] at HSAME
            obtain ⟨J, E, hJE⟩ : ∃ J E, rollMerge e.is x.is = (J, E) := ⟨_, _, rfl⟩
            have HM := Lib.hid fun w' => (by have := refMerge_any e.is x.is w'; rw [hJE] at this; exact this :
              Calls Tryd.prog 54 #[.agg #[.int .i64 e.is.c, .int .i64 e.is.s, .int .i64 e.is.mi, .int .i64 e.is.ma, .int .i64 e.is.t, .int .i64 e.is.l], .agg #[.int .i64 x.is.c, .int .i64 x.is.s, .int .i64 x.is.mi, .int .i64 x.is.ma, .int .i64 x.is.t, .int .i64 x.is.l]] w' fun e' w5 => e' = .returned (.tuple #[.agg #[.int .i64 J.c, .int .i64 J.s, .int .i64 J.mi, .int .i64 J.ma, .int .i64 J.t, .int .i64 J.l], .int .i64 E]) ∧ Below w'.heap.size w' w5)
            have HJE := Lib.hid hJE
            clear hJE
            go_wp2_with fail
            go_quiet (fail)
            go_upto_region 8 with (fail)
            go_cut [36] (fun c wx => c = .bool true ∧ OwnEnts (w.heap.size + 1) wx (.slice so es.length sc) es ∧ Below (w.heap.size + 1) W0 wx)
            case first =>
              go_quiet (fail)
              go_wp2
              go_meet
              exact ⟨rfl, (by repeat (first | assumption | with_reducible refine OwnEnts.alloc ?_ _ | with_reducible refine OwnEnts.drewN ?_ _ | with_reducible refine OwnEnts.drew ?_)), (by repeat (first | with_reducible exact Below.refl _ _ | with_reducible assumption | with_reducible refine below_dn ?_ _ | with_reducible refine Below.drew ?_ | with_reducible refine Below.alloc ?_ (by first | omega | (simp; done) | (simp; omega) | (simp [drew_size]; done) | (simp [drew_size]; omega)) _ | with_reducible refine Below.setCell ?_ (by first | omega | (simp; done) | (simp; omega) | (simp [drew_size]; done) | (simp [drew_size]; omega)) _))⟩
            case rest =>
              obtain ⟨rfl, hown8, hb8⟩ := hcut
              clear c0 c1 c2 c3 c4 c5 c6 x0 x1 x2 x3 x4 x5 x6
              obtain ⟨W8, hW8⟩ : ∃ W8, W8 = wc := ⟨_, rfl⟩
              subst hW8
              have hsz8 : w.heap.size + 1 ≤ W8.heap.size := by have := hb8.size; omega
              have HB8 := Lib.hid fun w' (hb : Below W8.heap.size W8 w') => (Below.trans' hb8 hb hsz8 : Below (w.heap.size + 1) W0 w')
              have HO8 := Lib.hid fun w' (hb : Below W8.heap.size W8 w') => hown8.below hb (Nat.le_refl _)
              have HS := Lib.hid fun w' (hb : Below W8.heap.size W8 w') => (by
                obtain ⟨-, y1, y2, y3, y4, y5, y6⟩ := HK.out w' (HB8.out _ hb)
                exact ⟨y1, y2, y3, y4, y5, y6, (HX.out w' (HB8.out _ hb)).2⟩ :
                w'.cell? ⟨ab, aoff + k * 7 + 1, none⟩ = some (.int .i64 e.is.c) ∧ w'.cell? ⟨ab, aoff + k * 7 + 2, none⟩ = some (.int .i64 e.is.s) ∧ w'.cell? ⟨ab, aoff + k * 7 + 3, none⟩ = some (.int .i64 e.is.mi) ∧ w'.cell? ⟨ab, aoff + k * 7 + 4, none⟩ = some (.int .i64 e.is.ma) ∧ w'.cell? ⟨ab, aoff + k * 7 + 5, none⟩ = some (.int .i64 e.is.t) ∧ w'.cell? ⟨ab, aoff + k * 7 + 6, none⟩ = some (.int .i64 e.is.l) ∧ w'.cell? ⟨w.heap.size, 1, none⟩ = some (.int .i64 x.is.c) ∧ w'.cell? ⟨w.heap.size, 2, none⟩ = some (.int .i64 x.is.s) ∧ w'.cell? ⟨w.heap.size, 3, none⟩ = some (.int .i64 x.is.mi) ∧ w'.cell? ⟨w.heap.size, 4, none⟩ = some (.int .i64 x.is.ma) ∧ w'.cell? ⟨w.heap.size, 5, none⟩ = some (.int .i64 x.is.t) ∧ w'.cell? ⟨w.heap.size, 6, none⟩ = some (.int .i64 x.is.l))
              have b0 : Below W8.heap.size W8 W8.drew := (Below.refl _ _).drew
              have hs0 := HS.out _ b0
              clear hown8 hb8 hown hbW' hbw
              go_upto_region 9 with (fail)
              go_cut [9, 10] (fun p c wx => ∃ g : Nat, p = .pointer (some ⟨g, 0, none⟩) ∧ c = .int .i64 E ∧ wx.heap[g]? = some (.cells #[.int .i64 J.c, .int .i64 J.s, .int .i64 J.mi, .int .i64 J.ma, .int .i64 J.t, .int .i64 J.l] 41) ∧ OwnEnts (w.heap.size + 1) wx (.slice so es.length sc) es ∧ Below (w.heap.size + 1) W0 wx)
              case first =>
                go_region_held3 (fun w' => w'.cell? ⟨ab, aoff + k * 7 + 1, none⟩ = some (.int .i64 e.is.c) ∧ w'.cell? ⟨ab, aoff + k * 7 + 2, none⟩ = some (.int .i64 e.is.s) ∧ w'.cell? ⟨ab, aoff + k * 7 + 3, none⟩ = some (.int .i64 e.is.mi) ∧ w'.cell? ⟨ab, aoff + k * 7 + 4, none⟩ = some (.int .i64 e.is.ma) ∧ w'.cell? ⟨ab, aoff + k * 7 + 5, none⟩ = some (.int .i64 e.is.t) ∧ w'.cell? ⟨ab, aoff + k * 7 + 6, none⟩ = some (.int .i64 e.is.l) ∧ w'.cell? ⟨w.heap.size, 1, none⟩ = some (.int .i64 x.is.c) ∧ w'.cell? ⟨w.heap.size, 2, none⟩ = some (.int .i64 x.is.s) ∧ w'.cell? ⟨w.heap.size, 3, none⟩ = some (.int .i64 x.is.mi) ∧ w'.cell? ⟨w.heap.size, 4, none⟩ = some (.int .i64 x.is.ma) ∧ w'.cell? ⟨w.heap.size, 5, none⟩ = some (.int .i64 x.is.t) ∧ w'.cell? ⟨w.heap.size, 6, none⟩ = some (.int .i64 x.is.l))
                  (first | with_reducible exact hs0 | (with_reducible refine HS.out _ ?_; exact (by repeat (first | with_reducible exact Below.refl _ _ | with_reducible assumption | with_reducible refine below_dn ?_ _ | with_reducible refine Below.drew ?_ | with_reducible refine Below.alloc ?_ (by first | omega | (simp; done) | (simp; omega) | (simp [drew_size]; done) | (simp [drew_size]; omega)) _ | with_reducible refine Below.setCell ?_ (by first | omega | (simp; done) | (simp; omega) | (simp [drew_size]; done) | (simp [drew_size]; omega)) _))))
                  (first
                    | (go_at_call 54; (with_reducible refine (HM.out _).mono ?_); rintro e' w5 ⟨rfl, BE⟩; guard_hyp BE : Below W8.drew.heap.size W8.drew w5; have hb5 : Below W8.heap.size W8 w5 := Below.trans' (show Below W8.heap.size W8 _ from (by repeat (first | with_reducible exact Below.refl _ _ | with_reducible assumption | with_reducible refine below_dn ?_ _ | with_reducible refine Below.drew ?_ | with_reducible refine Below.alloc ?_ (by first | omega | (simp; done) | (simp; omega) | (simp [drew_size]; done) | (simp [drew_size]; omega)) _ | with_reducible refine Below.setCell ?_ (by first | omega | (simp; done) | (simp; omega) | (simp [drew_size]; done) | (simp [drew_size]; omega)) _))) BE (by first | omega | (simp; done) | (simp; omega) | (simp [drew_size]; done) | (simp [drew_size]; omega)); have hsz5 := hb5.size)
                    | (go_at_call 54; (with_reducible refine (HM.out _).mono ?_); rintro e' w5 ⟨rfl, BE⟩; obtain ⟨q5, z0, z1, z2, z3, z4, z5, zf⟩ := zero_roll BE; have hb5 : Below W8.heap.size W8 w5 := Below.trans' (show Below W8.heap.size W8 _ from (by repeat (first | with_reducible exact Below.refl _ _ | with_reducible assumption | with_reducible refine below_dn ?_ _ | with_reducible refine Below.drew ?_ | with_reducible refine Below.alloc ?_ (by first | omega | (simp; done) | (simp; omega) | (simp [drew_size]; done) | (simp [drew_size]; omega)) _ | with_reducible refine Below.setCell ?_ (by first | omega | (simp; done) | (simp; omega) | (simp [drew_size]; done) | (simp [drew_size]; omega)) _))) BE (by first | omega | (simp; done) | (simp; omega) | (simp [drew_size]; done) | (simp [drew_size]; omega)); have hsz5 := hb5.size))
                all_goals
                  go_wp2_with fail
                  go_meet
                  refine ⟨_, rfl, rfl, ?_, ?_, ?_⟩
                  · first
                    | with_reducible exact heap_new _ _ rfl
                    | with_reducible exact heap_set6 q5
                   
                  · exact HO8.out _ (by repeat (first | with_reducible exact Below.refl _ _ | with_reducible assumption | with_reducible refine below_dn ?_ _ | with_reducible refine Below.drew ?_ | with_reducible refine Below.alloc ?_ (by first | omega | (simp; done) | (simp; omega) | (simp [drew_size]; done) | (simp [drew_size]; omega)) _ | with_reducible refine Below.setCell ?_ (by first | omega | (simp; done) | (simp; omega) | (simp [drew_size]; done) | (simp [drew_size]; omega)) _))
                  · exact HB8.out _ (by repeat (first | with_reducible exact Below.refl _ _ | with_reducible assumption | with_reducible refine below_dn ?_ _ | with_reducible refine Below.drew ?_ | with_reducible refine Below.alloc ?_ (by first | omega | (simp; done) | (simp; omega) | (simp [drew_size]; done) | (simp [drew_size]; omega)) _ | with_reducible refine Below.setCell ?_ (by first | omega | (simp; done) | (simp; omega) | (simp [drew_size]; done) | (simp [drew_size]; omega)) _))
              case rest =>
                obtain ⟨g, rfl, rfl, hg, hown9, hb9⟩ := hcut
                have hsz9 : w.heap.size + 1 ≤ wc.heap.size := by have := hb9.size; omega
                obtain ⟨j0, j1, j2, j3, j4, j5⟩ : wc.cell? ⟨g, 0, none⟩ = some (.int .i64 J.c) ∧ wc.cell? ⟨g, 1, none⟩ = some (.int .i64 J.s) ∧ wc.cell? ⟨g, 2, none⟩ = some (.int .i64 J.mi) ∧ wc.cell? ⟨g, 3, none⟩ = some (.int .i64 J.ma) ∧ wc.cell? ⟨g, 4, none⟩ = some (.int .i64 J.t) ∧ wc.cell? ⟨g, 5, none⟩ = some (.int .i64 J.l) := by simp [World.cell?, hg]
                obtain ⟨x0, -⟩ := HX.out _ hb9
                by_cases hcc : e.is.c + x.is.c ≤ 1073741824
                · have hj : (J, E) = _ := HJE.out.symm.trans (merge_ok HCE.out hx hcc).1
                  obtain ⟨rfl, rfl⟩ := Prod.mk.inj hj
                  have HREL' := Lib.hid (HSAME.out.1 hcc)
                  generalize e.is.join x.is = J at *
                  clear hj hcc HSAME HJE
                  go_wp2_with ((at_builtin; refine wpList_append_ent rfl (.tmp 51) (.tmp 56) rfl (w.heap.size + 1) _ es rfl (by repeat (first | assumption | with_reducible refine OwnEnts.alloc ?_ _ | with_reducible refine OwnEnts.drewN ?_ _ | with_reducible refine OwnEnts.drew ?_)) ⟨_, 0, none⟩ ⟨x.key, J⟩ rfl (fun j u h => ent_new h) hes (by first | omega | (simp; done) | (simp; omega) | (simp [drew_size]; done) | (simp [drew_size]; omega)) ?_; intro v3 w3 own3 hg3; have hb3 := hg3 (w.heap.size + 1) W0 (by repeat (first | with_reducible exact Below.refl _ _ | with_reducible assumption | with_reducible refine below_dn ?_ _ | with_reducible refine Below.drew ?_ | with_reducible refine Below.alloc ?_ (by first | omega | (simp; done) | (simp; omega) | (simp [drew_size]; done) | (simp [drew_size]; omega)) _ | with_reducible refine Below.setCell ?_ (by first | omega | (simp; done) | (simp; omega) | (simp [drew_size]; done) | (simp [drew_size]; omega)) _)) (Nat.le_refl _)))
                  go_roundg (xs.length - (k + 1))
                  case measure => omega
                  case rel => exact ⟨k + 1, true, es ++ [⟨x.key, J⟩], by omega, rfl, by go_num, rfl, own3, HREL', hb3⟩
                · have hj : (J, E) = _ := HJE.out.symm.trans ((merge_fine HCE.out hx).trans (if_neg hcc))
                  obtain ⟨rfl, rfl⟩ := Prod.mk.inj hj
                  have HR := Lib.hid (HSAME.out.2 (by omega))
                  clear hj hcc HSAME HJE
                  go_wp2
                  go_ret2
                  rw [HR.out]
                  exact wpost_none (HB.out _ hb9) rfl
          · have d2 : (e.key == x.key) = false := by simp [h2]
            have HREL' := Lib.hid (by have := withRel_more hlt HREL.out (by rw [HE.out]; omega); rwa [HE.out] at this : WithRel xs x (k + 1) true (es ++ [x] ++ [e]))
            have hes2 : (es ++ [x]).length ≤ 1000000 := by have := HREL.out.1; simp; omega
            go_wp2_with fail
            go_quiet (fail)
            go_wp2_with fail
            go_quiet (fail)
            go_wp2_with (first
              | (at_builtin; refine wpList_append_ent rfl (.tmp 58) (.tmp 60) rfl (w.heap.size + 1) _ es rfl (by repeat (first | assumption | with_reducible refine OwnEnts.alloc ?_ _ | with_reducible refine OwnEnts.drewN ?_ _ | with_reducible refine OwnEnts.drew ?_)) ⟨_, 0, none⟩ x rfl (fun j u h => ent_new h) hes (by first | omega | (simp; done) | (simp; omega) | (simp [drew_size]; done) | (simp [drew_size]; omega)) ?_; intro v3 w3 own3 hg3; have hb3 := hg3 (w.heap.size + 1) W0 (by repeat (first | with_reducible exact Below.refl _ _ | with_reducible assumption | with_reducible refine below_dn ?_ _ | with_reducible refine Below.drew ?_ | with_reducible refine Below.alloc ?_ (by first | omega | (simp; done) | (simp; omega) | (simp [drew_size]; done) | (simp [drew_size]; omega)) _ | with_reducible refine Below.setCell ?_ (by first | omega | (simp; done) | (simp; omega) | (simp [drew_size]; done) | (simp [drew_size]; omega)) _)) (Nat.le_refl _); obtain ⟨y0, y1, y2, y3, y4, y5, y6⟩ := HK.out _ hb3; have hsz3 : w.heap.size + 1 ≤ w3.heap.size := (by have := hb3.size; omega))
              | (at_builtin; refine wpList_append_ent rfl (.tmp 62) (.tmp 67) rfl (w.heap.size + 1) _ (es ++ [x]) rfl (by repeat (first | assumption | with_reducible refine OwnEnts.alloc ?_ _ | with_reducible refine OwnEnts.drewN ?_ _ | with_reducible refine OwnEnts.drew ?_)) ⟨_, 0, none⟩ e rfl (fun j u h => ent_new h) hes2 (by first | omega | (simp; done) | (simp; omega) | (simp [drew_size]; done) | (simp [drew_size]; omega)) ?_; intro v4 w4 own4 hg3; have hb4 := hg3 (w.heap.size + 1) W0 (by repeat (first | with_reducible exact Below.refl _ _ | with_reducible assumption | with_reducible refine below_dn ?_ _ | with_reducible refine Below.drew ?_ | with_reducible refine Below.alloc ?_ (by first | omega | (simp; done) | (simp; omega) | (simp [drew_size]; done) | (simp [drew_size]; omega)) _ | with_reducible refine Below.setCell ?_ (by first | omega | (simp; done) | (simp; omega) | (simp [drew_size]; done) | (simp [drew_size]; omega)) _)) (Nat.le_refl _)))
            go_roundg (xs.length - (k + 1))
            case measure => omega
            case rel => exact ⟨k + 1, true, es ++ [x] ++ [e], by omega, rfl, by go_num, rfl, own4, HREL', hb4⟩
    · have hkn : xs.length ≤ k := by omega
      clear a5 hc
      cases b with
      | true =>
        have HR := Lib.hid ((withRel_end hkn).1 HREL.out)
        go_wp2
        go_ret2
        rw [HR.out]
        exact wpost_some hbw rfl (hown.mono (by omega))
      | false =>
        have HR := Lib.hid ((withRel_end hkn).2 HREL.out)
        obtain ⟨x0, x1, x2, x3, x4, x5, x6⟩ := HX.out _ hbW'
        go_wp2_with ((at_builtin; refine wpList_append_ent rfl (.tmp 71) (.tmp 73) rfl (w.heap.size + 1) _ es rfl (by repeat (first | assumption | with_reducible refine OwnEnts.alloc ?_ _ | with_reducible refine OwnEnts.drewN ?_ _ | with_reducible refine OwnEnts.drew ?_)) ⟨_, 0, none⟩ x rfl (fun j u h => ent_new h) hes (by first | omega | (simp; done) | (simp; omega) | (simp [drew_size]; done) | (simp [drew_size]; omega)) ?_; intro v3 w3 own3 hg3; have hb3 := hg3 (w.heap.size + 1) W0 (by repeat (first | with_reducible exact Below.refl _ _ | with_reducible assumption | with_reducible refine below_dn ?_ _ | with_reducible refine Below.drew ?_ | with_reducible refine Below.alloc ?_ (by first | omega | (simp; done) | (simp; omega) | (simp [drew_size]; done) | (simp [drew_size]; omega)) _ | with_reducible refine Below.setCell ?_ (by first | omega | (simp; done) | (simp; omega) | (simp [drew_size]; done) | (simp [drew_size]; omega)) _)) (Nat.le_refl _)))
        go_ret2
        rw [HR.out]
        exact wpost_some (HB.out _ hb3) rfl (own3.mono (by omega))
end Go.Proofs.YtijcaejdgicbmaaDoor
