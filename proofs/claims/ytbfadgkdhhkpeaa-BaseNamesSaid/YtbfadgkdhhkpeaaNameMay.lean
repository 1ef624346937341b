/- The walks of base.Name, of the library's ContainsFunc and IndexFunc at its closure, and of the reference's NameMay. -/
import Derived.Test.YtbfadgkdhhkpeaaRoll
import Derived.Test.YtbfadgkdhhkpeaaEq
namespace Go.Proofs.Ytbfadgkdhhkpeaa
open Go.RowKit

def okByte (c : Int) : Bool := decide ((97 ≤ c ∧ c ≤ 122) ∨ (48 ≤ c ∧ c ≤ 57) ∨ c = 46)

set_option maxHeartbeats 1000000 in
theorem nameClosure_any (c : Int) (w : World) (h0 : 0 ≤ c) (h1 : c ≤ 255) : Calls Try.prog 61 #[.int .u8 c] w fun e w' => e = .returned (.bool (!okByte c)) ∧ w = w' := by
  go_enter Try.func61, Try.ntmps61
  go_wp2
  all_goals (go_ret; refine ⟨ret_bool ?_, rfl⟩)
  all_goals (rw [Bool.eq_iff_iff]; simp [okByte]; omega)

/-- The first byte that is none of a name: its place; -1: there is none. -/
def firstBad (l : List Int) : Int := if l.all okByte then -1 else (l.findIdx (fun c => !okByte c) : Nat)
theorem firstBad_none {l : List Int} (h : l.all okByte = true) : firstBad l = -1 := by simp [firstBad, h]
theorem firstBad_at {l : List Int} {k : Nat} (hk : k < l.length) (ha : (l.take k).all okByte = true) (hb : okByte l[k] = false) : firstBad l = k := by
  have hn : l.all okByte = false := by
    rw [Bool.eq_false_iff]; intro h
    have := List.all_eq_true.1 h l[k] (List.getElem_mem hk)
    rw [hb] at this; cases this
  have : l.findIdx (fun c => !okByte c) = k := by
    rw [List.findIdx_eq hk]
    refine ⟨by simp [hb], fun j hj => ?_⟩
    have := List.all_eq_true.1 ha l[j] (by rw [List.mem_take_iff_getElem]; exact ⟨j, by omega, rfl⟩)
    simp [this]
  simp [firstBad, hn, this]
theorem all_take_step {l : List Int} {k : Nat} (hk : k < l.length) (ha : (l.take k).all okByte = true) (hb : okByte l[k] = true) : (l.take (k + 1)).all okByte = true := by
  rw [List.take_succ_eq_append_getElem hk, List.all_append, ha]; simp [hb]
theorem firstBad_nonneg {l : List Int} : (decide (0 ≤ firstBad l)) = !l.all okByte := by
  cases h : l.all okByte
  · simp [firstBad, h]
  · simp [firstBad, h]

def enByte (n : Int) : List Value := [.int .u8 n]
abbrev BytesAt (w : World) (v : Value) (xs : List Int) : Prop := SlAt 1 1 enByte w v xs
theorem byte_cell {w wr : World} {b off k : Nat} {xs : List Int} (hb : Below w.heap.size w wr) (hbb : b < w.heap.size)
    (h : ∀ i x, xs[i]? = some x → ∀ j u, (enByte x)[j]? = some u → w.cell? ⟨b, off + i * 1 + j, none⟩ = some u) (hk : k < xs.length) :
    wr.cell? ⟨b, off + k, none⟩ = some (.int .u8 xs[k]) := by
  have := (hb.cell (p := ⟨b, _, none⟩) hbb).trans (h k xs[k] (by simp [hk]) 0 _ rfl)
  simpa using this

set_option maxHeartbeats 1000000 in
theorem indexFunc_any {v : Value} {xs : List Int} {w : World} (ha : BytesAt w v xs) (hq : ∀ c ∈ xs, 0 ≤ c ∧ c ≤ 255) :
    Calls Try.prog 74 #[v, .func (.func 61) #[] #[]] w fun e w' => e = .returned (.int .i64 (firstBad xs)) ∧ w = w' := by
  obtain ⟨ao, ca, rfl, a1, a2, a3, a4, a5⟩ := ha
  go_enter Try.func74, Try.ntmps74
  go_wp2_with fail
  go_loopg [5, 8] xs.length (fun g _ i wr => ∃ k : Nat, k ≤ xs.length ∧ g = xs.length - k ∧ i = .int .i64 k ∧ Hid ((xs.take k).all okByte = true) ∧ w = wr)
  case atStart => exact ⟨0, Nat.zero_le _, rfl, rfl, Lib.hid (by simp), rfl⟩
  case round =>
    obtain ⟨k, hk, rfl, rfl, HE, rfl⟩ := hrel
    by_cases hlt : k < xs.length
    · obtain ⟨ab, aoff, rfl, abb, ac⟩ := a5 (by omega)
      have c0 := byte_cell (Below.refl _ _) abb ac hlt
      clear ac a5
      obtain ⟨q0, q1⟩ := hq _ (List.getElem_mem hlt)
      obtain ⟨c, hc⟩ : ∃ c, xs[k] = c := ⟨_, rfl⟩
      rw [hc] at c0 q0 q1
      have EC := Lib.hid hc
      clear hc
      cases hok : okByte c
      · have hfin : firstBad xs = k := firstBad_at hlt HE.out (by rw [EC.out]; exact hok)
        have HF := Lib.hid hfin
        clear hfin
        go_wp2_with (go_at_call 61; refine (nameClosure_any _ _ (by omega) (by omega)).mono ?_; rintro e w1 ⟨rfl, rfl⟩)
        go_ret
        exact ⟨ret_int HF.out.symm, rfl⟩
      · have HK := Lib.hid hok
        go_wp2_with (go_at_call 61; refine (nameClosure_any _ _ (by omega) (by omega)).mono ?_; rintro e w1 ⟨rfl, rfl⟩)
        go_roundg (xs.length - (k + 1))
        case measure => omega
        case rel => exact ⟨k + 1, by omega, rfl, by go_num, Lib.hid (all_take_step hlt HE.out (by rw [EC.out]; exact HK.out)), rfl⟩
    · have hfin : firstBad xs = -1 := firstBad_none (by have := HE.out; rwa [List.take_of_length_le (by omega)] at this)
      have HF := Lib.hid hfin
      clear hfin
      go_wp2
      go_ret
      exact ⟨ret_int HF.out.symm, rfl⟩

theorem containsFunc_any {v : Value} {xs : List Int} {w : World} (ha : BytesAt w v xs) (hq : ∀ c ∈ xs, 0 ≤ c ∧ c ≤ 255) :
    Calls Try.prog 60 #[v, .func (.func 61) #[] #[]] w fun e w' => e = .returned (.bool (!xs.all okByte)) ∧ w = w' := by
  obtain ⟨z, hz⟩ : ∃ z, firstBad xs = z := ⟨_, rfl⟩
  have hres : decide (0 ≤ z) = !xs.all okByte := by rw [← hz]; exact firstBad_nonneg
  have HR := Lib.hid hres
  have h := indexFunc_any ha hq
  rw [hz] at h
  have H := Lib.hid h
  clear h hres hz
  go_enter Try.func60, Try.ntmps60
  go_wp2_with (go_at_call 74; refine H.out.mono ?_; rintro e w1 ⟨rfl, rfl⟩)
  go_ret
  exact ⟨ret_bool HR.out, rfl⟩
end Go.Proofs.Ytbfadgkdhhkpeaa
