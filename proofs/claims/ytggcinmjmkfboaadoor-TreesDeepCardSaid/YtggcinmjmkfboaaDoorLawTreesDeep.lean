/- The law TreesDeep: of any two numbers a tree is grown that may be and is not deep. -/
import Derived.Test.YtggcinmjmkfboaaDoorKB
import Derived.Test.YtggcinmjmkfboaaDoorTells
import Derived.Test.YtggcinmjmkfboaaDoorOG
import Derived.Test.YtggcinmjmkfboaaDoorNC
import Derived.Test.YtggcinmjmkfboaaDoorGrown
namespace Go.Proofs.YtggcinmjmkfboaaDoor
open Go.RowKit

structure DeepAt (w : World) (tb : Nat) (k : Nat) (s : Option Addr) (n c : Nat) (t : Tr) (wr : World) : Prop where
  below : Below w.heap.size w wr
  size : w.heap.size ≤ tb
  lt : tb < wr.heap.size
  t0 : wr.cell? ⟨tb, 0, none⟩ = some (.slice s n c)
  t1 : wr.cell? ⟨tb, 1, none⟩ = some (.int .i64 t.root)
  tf : ∀ o, wr.frozen? ⟨tb, o, none⟩ = false
  tree : ∀ w'', wr.heap.size ≤ w''.heap.size → (∀ b, w.heap.size ≤ b → b ≠ tb → b < wr.heap.size → w''.heap[b]? = wr.heap[b]?) → TreeAt w'' (.agg #[.slice s n c, .int .i64 t.root]) t
  grown : ∃ E : List Ent, E.length = k ∧ (∀ e ∈ E, e.is.c ≤ (1 : Nat)) ∧ Grown E t
theorem DeepAt.later {w : World} {tb k : Nat} {s : Option Addr} {n c : Nat} {t : Tr} {wr w' : World} (h : DeepAt w tb k s n c t wr) (hb : Below wr.heap.size wr w') : DeepAt w tb k s n c t w' := by
  have h1 := h.size
  have h2 := h.lt
  have k1 := keep1 hb (B := tb) h2
  exact ⟨Below.trans' h.below hb h.below.size, h1, k1.1, (k1.2.1 _).trans h.t0, (k1.2.1 _).trans h.t1, fun o => (k1.2.2 o).trans (h.tf o), fun w'' hs hk => h.tree w'' (Nat.le_trans hb.size hs) fun b b1 b2 b3 => (hk b b1 b2 (Nat.lt_of_lt_of_le b3 hb.size)).trans (hb.block b b3), h.grown⟩
theorem DeepAt.at {w : World} {tb k : Nat} {s : Option Addr} {n c : Nat} {t : Tr} {wr : World} (h : DeepAt w tb k s n c t wr) : TreeAt wr (.agg #[.slice s n c, .int .i64 t.root]) t := h.tree _ (Nat.le_refl _) fun _ _ _ _ => rfl
/-- One entry more. -/
theorem deep_step {w : World} {tb k : Nat} {s so : Option Addr} {n c n6 c6 : Nat} {rt E2 : Int} {t : Tr} {W w6 W7 : World} {key : Int} {r : Roll} (h : DeepAt w tb k s n c t W) (hk : k < 250) (hr : r.c = 1) (hc : rollCheck r = 0) (hk0 : 0 ≤ key) (hk1 : key < 1099511627776)
    (hf : PutForm W.heap.size t key r w6 so n6 c6 rt E2) (hb6 : Below W.heap.size W w6) (hb7 : Below w6.heap.size w6 W7) : E2 = 0 ∧ ∃ t2, DeepAt w tb (k + 1) so n6 c6 t2 ((W7.setCell ⟨tb, 0, none⟩ (.slice so n6 c6)).setCell ⟨tb, 1, none⟩ (.int .i64 rt)) := by
  obtain ⟨E, e1, e2, e3⟩ := h.grown
  have he : EntOk ⟨key, r⟩ := ⟨by simp [hr], hc, hk0, hk1⟩
  have hall : ∀ x ∈ (⟨key, r⟩ : Ent) :: E, x.is.c ≤ (1 : Nat) := fun x hx => by
    rcases List.mem_cons.1 hx with rfl | hx
    · simp [hr]
    · exact e2 x hx
  have hs : Small ((⟨key, r⟩ : Ent) :: E) := small_cnt hall (by rw [List.length_cons]; omega)
  have hp := e3.putE he hs
  rcases hf with ⟨p1, -⟩ | ⟨-, t2, h2, l2, p2, p3, p4, ⟨p5, -, rfl, p6⟩ | ⟨-, p6⟩⟩
  · exact absurd hp p1
  · obtain ⟨-, g⟩ := e3.put he (by omega) p2 p3 p4
    have h7 := h.later (Below.trans' hb6 hb7 hb6.size)
    have x2 := h7.lt
    have x1 := h7.size
    have x0 := h7.tf
    have h6s := hb6.size
    have h1 := h.lt
    have hob : ∀ b, b ≠ tb → ((W7.setCell ⟨tb, 0, none⟩ (.slice so n6 c6)).setCell ⟨tb, 1, none⟩ (.int .i64 t2.root)).heap[b]? = W7.heap[b]? := fun b hb =>
      (heap_setCell_other _ ⟨tb, _, none⟩ b _ hb).trans (heap_setCell_other _ ⟨tb, _, none⟩ b _ hb)
    have hsz : ((W7.setCell ⟨tb, 0, none⟩ (.slice so n6 c6)).setCell ⟨tb, 1, none⟩ (.int .i64 t2.root)).heap.size = W7.heap.size := by simp only [heap_setCell_size]
    refine ⟨p5, t2, ⟨(h7.below.setCell (by show w.heap.size ≤ tb; omega) _).setCell (by show w.heap.size ≤ tb; omega) _, x1, by rw [hsz]; exact x2, cell_setOff (by decide) (cell_setSame h7.t0), cell_setSame (cell_setOff (by decide) h7.t1), fun o => by simp [x0], fun w'' hs hk => p6 w'' ⟨by have := hb7.size; omega, fun b b1 b2 => ?_⟩, ⟨_ :: E, by simp [e1], hall, g⟩⟩⟩
    rw [hsz] at hk
    have := hb7.size
    exact (hk b (by have := h.below.size; omega) (by omega) (by omega)).trans ((hob b (by omega)).trans (hb7.block b b2))
  · exact absurd ((e3.put he (by omega) p2 p3 p4).1) p6
set_option maxRecDepth 100000 in
set_option maxHeartbeats 4000000 in
theorem treesDeep_any {n s : Int} {w : World} (hn : -9223372036854775808 ≤ n ∧ n ≤ 9223372036854775807) (hs : -9223372036854775808 ≤ s ∧ s ≤ 9223372036854775807) (hsz : SizesAt w) :
    Calls Tryd.prog 5 #[.int .i64 n, .int .i64 s] w fun e w' => e = .returned (.bool true) ∧ Below w.heap.size w w' := by
  have HT := Lib.hid (tells_any hsz)
  obtain ⟨K0, hK0⟩ : ∃ q, picked n 200 = q := ⟨_, rfl⟩
  obtain ⟨S0, hS0⟩ : ∃ q, picked s 50 = q := ⟨_, rfl⟩
  have hKr := picked_range (n := n) (m := 200) (by decide)
  have hSr := picked_range (n := s) (m := 50) (by decide)
  have HPK := Lib.hid fun W => picked_any2 n 200 W hn.1 hn.2 (by decide) (by decide)
  have HPS := Lib.hid fun W => picked_any2 s 50 W hs.1 hs.2 (by decide) (by decide)
  rw [hK0] at hKr HPK
  rw [hS0] at hSr HPS
  obtain ⟨K, hK⟩ : ∃ K : Nat, (K : Int) = 1 + K0 := ⟨(1 + K0).toNat, by omega⟩
  obtain ⟨S, hS⟩ : ∃ S : Int, S = 1 + 2 * S0 := ⟨_, rfl⟩
  have hw1 : IntKind.i64.wrap (1 + K0) = (K : Int) := by rw [hK]; exact IntWalk.i64_in _ (by omega)
  have hw2 : IntKind.i64.wrap (2 * S0) = 2 * S0 := IntWalk.i64_in _ (by omega)
  have hw3 : IntKind.i64.wrap (1 + 2 * S0) = S := by rw [hS]; exact IntWalk.i64_in _ (by omega)
  have hKb : 1 ≤ K ∧ K ≤ 200 := by omega
  have hSb : 1 ≤ S ∧ S ≤ 99 := by omega
  have HN := Lib.hid fun W => treeNew_made W
  clear hsz hK0 hS0 hn hs hKr hSr hK hS
  go_enter Tryd.func5, Tryd.ntmps5
  go_upto_region 3 with (go_at_call 13; (with_reducible refine HT.out.mono ?_); rintro e w1 ⟨rfl, hb1⟩)
  go_upto_region 4 with (go_at_call 18; (with_reducible refine (HPK.out _).mono ?_); rintro e w2 ⟨rfl, hb2⟩)
  go_upto_region 5 with (go_at_call 18; (with_reducible refine (HPS.out _).mono ?_); rintro e w3 ⟨rfl, hb3⟩)
  have hb3' : Below w.heap.size w w3 := Below.trans' (Below.trans' hb1 hb2 hb1.size) hb3 (Nat.le_trans hb1.size hb2.size)
  clear hb1 hb2 hb3
  go_upto_region 6 with (go_at_call 21; (with_reducible refine (HN.out _).mono ?_); rintro e w4 ⟨g, rfl, hg1, hg2, hg, hb4⟩)
  obtain ⟨W4, hW4⟩ : ∃ W4, W4 = w4.alloc (.cells #[.slice (some ⟨g, 0, none⟩) 1 1, .int .i64 0] 36) := ⟨_, rfl⟩
  have hb5 : Below w4.heap.size w4 W4 := by rw [hW4]; exact (by repeat (first | with_reducible exact Below.refl _ _ | with_reducible assumption | with_reducible refine below_dn ?_ _ | with_reducible refine Below.drew ?_ | with_reducible refine Below.alloc ?_ (by first | omega | (simp; done) | (simp; omega) | (simp [drew_size]; done) | (simp [drew_size]; omega)) _ | with_reducible refine Below.setCell ?_ (by first | omega | (simp; done) | (simp; omega) | (simp [drew_size]; done) | (simp [drew_size]; omega)) _))
  have k5 : W4.heap[w4.heap.size]? = some (.cells #[.slice (some ⟨g, 0, none⟩) 1 1, .int .i64 0] 36) := by rw [hW4]; exact heap_new _ _ rfl
  have hs3 := hb3'.size
  have hs4 := hb4.size
  have hz4 : W4.heap.size = w4.heap.size + 1 := by rw [hW4]; simp
  have HI := Lib.hid (show DeepAt w w4.heap.size 0 (some ⟨g, 0, none⟩) 1 1 newT W4 from
    ⟨Below.trans' (Below.trans' hb3' hb4 hs3) hb5 (by omega), by omega, by omega, by simp [World.cell?, k5], by show W4.cell? ⟨w4.heap.size, 1, none⟩ = some (Value.int .i64 0); simp [World.cell?, k5], fun o => by simp [World.frozen?, k5],
      fun w'' hs hk => ⟨_, rfl, newNodes ((hk g (by omega) (by omega) (by omega)).trans ((hb5.block g hg2).trans hg))⟩, [], rfl, by simp, Grown.start⟩)
  rw [← hW4]
  obtain ⟨tb, htb⟩ : ∃ tb, w4.heap.size = tb := ⟨_, rfl⟩
  rw [htb] at HI ⊢
  clear hW4 k5 hs3 hs4 hz4 hb3' hb4 hb5 hg hg1 hg2 htb hw1 hw2 hw3
  go_wp2_with fail
  go_loopg [24] K (fun g i wr => ∃ k : Nat, k ≤ K ∧ g = K - k ∧ i = .int .i64 k ∧ Hid (∃ s n c t, DeepAt w tb k s n c t wr))
  case atStart => exact ⟨0, Nat.zero_le _, rfl, rfl, Lib.hid ⟨_, _, _, _, HI.out⟩⟩
  case round =>
    clear HI
    obtain ⟨k, hk, rfl, rfl, HR⟩ := hrel
    obtain ⟨s, n, c, t, hA⟩ := HR.out
    clear HR
    by_cases hlt : k < K
    · have hk2 : 0 ≤ (k : Int) ∧ (k : Int) ≤ 1048575 ∧ -1000000 ≤ (k : Int) ∧ (k : Int) ≤ 1000000 := by omega
      have HOF := Lib.hid (of_any (k : Int) k wr)
      rw [show rollOf (k : Int) k = ((⟨1, k, k, k, k, k⟩ : Roll), 0) from if_pos hk2] at HOF
      have HA := Lib.hid hA
      clear hA
      go_upto_region 10 with (go_at_call 22; (with_reducible refine HOF.out.mono ?_); rintro e w5 ⟨rfl, hb5⟩)
      obtain ⟨W5, hW5⟩ : ∃ W5, W5 = w5.alloc (.cells #[.int .i64 1, .int .i64 k, .int .i64 k, .int .i64 k, .int .i64 k, .int .i64 k] 26) := ⟨_, rfl⟩
      have hb5' : Below w5.heap.size w5 W5 := by rw [hW5]; exact (by repeat (first | with_reducible exact Below.refl _ _ | with_reducible assumption | with_reducible refine below_dn ?_ _ | with_reducible refine Below.drew ?_ | with_reducible refine Below.alloc ?_ (by first | omega | (simp; done) | (simp; omega) | (simp [drew_size]; done) | (simp [drew_size]; omega)) _ | with_reducible refine Below.setCell ?_ (by first | omega | (simp; done) | (simp; omega) | (simp [drew_size]; done) | (simp [drew_size]; omega)) _))
      have k5 : BoxAt W5 w5.heap.size ⟨1, k, k, k, k, k⟩ := by rw [hW5]; exact BoxAt.new _ ⟨1, k, k, k, k, k⟩
      have HA5 := Lib.hid (HA.out.later (Below.trans' hb5 hb5' hb5.size))
      rw [← hW5]
      obtain ⟨q0, q1, q2, q3, q4, q5⟩ := k5.cells
      clear hW5 hb5 hb5' k5
      obtain ⟨KEY, hKEY⟩ : ∃ q : Int, q = ((k : Int) * S).tmod 211 * 3 := ⟨_, rfl⟩
      have hm0 : 0 ≤ (k : Int) * S := Int.mul_nonneg (by omega) (by omega)
      have hm1 : (k : Int) * S ≤ 199 * 99 := Int.mul_le_mul (by omega) (by omega) (by omega) (by omega)
      have hm2 : 0 ≤ ((k : Int) * S).tmod 211 ∧ ((k : Int) * S).tmod 211 < 211 := ⟨Int.tmod_nonneg _ hm0, Int.tmod_lt_of_pos _ (by decide)⟩
      have hv1 : IntKind.i64.wrap ((k : Int) * S) = (k : Int) * S := IntWalk.i64_in _ (by omega)
      have hv2 : IntKind.i64.wrap (((k : Int) * S).tmod 211) = ((k : Int) * S).tmod 211 := IntWalk.i64_in _ (by omega)
      have hv3 : IntKind.i64.wrap (((k : Int) * S).tmod 211 * 3) = KEY := by rw [hKEY]; exact IntWalk.i64_in _ (by omega)
      have hk0 : 0 ≤ KEY ∧ KEY < 1099511627776 := by omega
      have hrc : rollCheck ⟨1, k, k, k, k, k⟩ = 0 := pt_check (by omega) (by omega) (by omega) (by omega)
      have HPUT := Lib.hid (treePut_form (key := KEY) (r := ⟨1, k, k, k, k, k⟩) HA5.out.at (fun h0 => by
        obtain ⟨E, e1, e2, e3⟩ := HA5.out.grown
        have he : EntOk ⟨KEY, ⟨1, k, k, k, k, k⟩⟩ := ⟨by show (1 : Int) ≠ 0; decide, hrc, hk0.1, hk0.2⟩
        refine e3.small he (small_cnt (m := 1) ?_ (by rw [List.length_cons]; omega))
        intro x hx
        rcases List.mem_cons.1 hx with rfl | hx
        · show (1 : Int) ≤ _; omega
        · exact e2 x hx))
      have x0 := HA5.out.t0
      have x1 := HA5.out.t1
      have HKK := Lib.hid (And.intro hk0 hrc)
      clear hKEY hm0 hm1 hm2 hk0 hrc
      go_upto_region 11 with (go_at_call 19; (with_reducible refine HPUT.out.mono ?_); rintro e w6 ⟨hb6, so, n6, c6, rt, E2, rfl, hpf⟩)
      obtain ⟨W7, hW7⟩ : ∃ W7, W7 = w6.alloc (.cells #[.slice so n6 c6, .int .i64 rt] 36) := ⟨_, rfl⟩
      have hb7 : Below w6.heap.size w6 W7 := by rw [hW7]; exact (by repeat (first | with_reducible exact Below.refl _ _ | with_reducible assumption | with_reducible refine below_dn ?_ _ | with_reducible refine Below.drew ?_ | with_reducible refine Below.alloc ?_ (by first | omega | (simp; done) | (simp; omega) | (simp [drew_size]; done) | (simp [drew_size]; omega)) _ | with_reducible refine Below.setCell ?_ (by first | omega | (simp; done) | (simp; omega) | (simp [drew_size]; done) | (simp [drew_size]; omega)) _))
      have k7 : W7.heap[w6.heap.size]? = some (.cells #[.slice so n6 c6, .int .i64 rt] 36) := by rw [hW7]; exact heap_new _ _ rfl
      obtain ⟨rfl, t2, hA7⟩ := deep_step HA5.out (by omega) rfl HKK.out.2 HKK.out.1.1 HKK.out.1.2 hpf hb6 hb7
      have HA7 := Lib.hid (HA5.out.later (Below.trans' hb6 hb7 hb6.size))
      have HR := Lib.hid hA7
      rw [← hW7]
      obtain ⟨u0, u1⟩ : W7.cell? ⟨w6.heap.size, 0, none⟩ = some (.slice so n6 c6) ∧ W7.cell? ⟨w6.heap.size, 1, none⟩ = some (.int .i64 rt) := by simp [World.cell?, k7]
      clear hW7 hb6 hb7 k7 hpf hA7 x0 x1 q0 q1 q2 q3 q4 q5 HPUT
      have x0 := HA7.out.t0
      have x1 := HA7.out.t1
      have xf := HA7.out.tf
      go_wp2_with fail
      go_roundg (K - (k + 1))
      case measure => omega
      case rel => exact ⟨k + 1, by omega, rfl, by go_num, Lib.hid ⟨_, _, _, _, HR.out⟩⟩
    · have hk' : k = K := by omega
      subst hk'
      have HA := Lib.hid hA
      have x0 := hA.t0
      have x1 := hA.t1
      have HC := Lib.hid (treeCheck_any hA.at)
      obtain ⟨E, e1, e2, e3⟩ := hA.grown
      rw [e3.fault] at HC
      have hnd := e3.nodes
      have HB := Lib.hid hA.below
      have hn : n = t.nodes.length := by
        obtain ⟨nv, hv, hn⟩ := hA.at
        obtain ⟨⟨ao, cap, rfl⟩, -⟩ := hn.len
        simp at hv
        exact hv.2.1
      have hle : (n : Int) ≤ 2 * (k : Int) := by omega
      have hw : IntKind.i64.wrap (2 * (k : Int)) = 2 * (k : Int) := IntWalk.i64_in _ (by omega)
      have htl := hA.lt
      clear hA e1 e2 e3 hnd hn
      go_wp2_with (go_at_call 23; (with_reducible refine HC.out.mono ?_); rintro e w8 ⟨rfl, hb8⟩; have y0 := (hb8.cell (p := ⟨tb, 0, none⟩) htl).trans x0)
      go_ret
      exact ⟨ret_bool (by simp), Below.trans' HB.out hb8 HB.out.size⟩
end Go.Proofs.YtggcinmjmkfboaaDoor
