/- Texts of mine that come as one: NameR. -/
import Derived.Test.YtmpknhefkhjfpaaRoll
import Derived.Test.YtmpknhefkhjfpaaKG
/- The walk of the reference's NameMay. -/
namespace Go.Proofs.Ytmpknhefkhjfpaa
open Go.RowKit

def okByte (c : Int) : Bool := decide ((97 ≤ c ∧ c ≤ 122) ∨ (48 ≤ c ∧ c ≤ 57) ∨ c = 46)

theorem all_take_step {l : List Int} {k : Nat} (hk : k < l.length) (ha : (l.take k).all okByte = true) (hb : okByte l[k] = true) : (l.take (k + 1)).all okByte = true := by
  rw [List.take_succ_eq_append_getElem hk, List.all_append, ha]; simp [hb]
def nums (s : ByteArray) : List Int := s.data.toList.map fun b => (b.toNat : Int)
def nameMay (s : ByteArray) : Bool := decide (1 ≤ s.size ∧ s.size ≤ 10) && (nums s).all okByte
theorem nums_length (s : ByteArray) : (nums s).length = s.size := by simp [nums]
theorem nums_range (s : ByteArray) : ∀ c ∈ nums s, 0 ≤ c ∧ c ≤ 255 := by
  intro c hc
  obtain ⟨b, _, rfl⟩ := List.mem_map.1 hc
  have := b.toNat_lt
  omega


theorem nums_at (s : ByteArray) {k : Nat} (h : k < s.size) : (nums s)[k]'(by rw [nums_length]; exact h) = ((s[k]'h).toNat : Int) := by
  simp [nums]; rfl

theorem ok_c {c : Int} (h : inR c 97 122 = true ∨ inR c 48 57 = true ∨ (c != 46) = false) : okByte c = true := by
  simp only [inR_true, bne_eq_false_iff_eq] at h; simp [okByte]; omega
theorem bad_c {c : Int} (h1 : ¬ inR c 97 122 = true) (h2 : ¬ inR c 48 57 = true) (h3 : (c != 46) = true) : okByte c = false := by
  simp only [inR_true, bne_iff_ne, ne_eq] at h1 h2 h3; simp [okByte]; omega
theorem all_bad {l : List Int} {k : Nat} (hk : k < l.length) (hb : okByte l[k] = false) : l.all okByte = false := by
  rw [Bool.eq_false_iff]; intro h
  have := List.all_eq_true.1 h l[k] (List.getElem_mem hk)
  rw [hb] at this; cases this

set_option maxHeartbeats 1000000 in
theorem refNameMay_any (s : ByteArray) (w : World) (hs : s.size ≤ 140737488351232) : Calls Try.prog 51 #[.string s] w fun e w' => e = .returned (.bool (nameMay s)) ∧ Below w.heap.size w w' := by
  obtain ⟨r, hr⟩ : ∃ r, nameMay s = r := ⟨_, rfl⟩
  rw [hr]
  have HR := Lib.hid hr
  clear hr
  go_enter Try.func51, Try.ntmps51
  go_wp2_with fail
  go_loopg [3] s.size (fun g i wr => ∃ k : Nat, k ≤ s.size ∧ g = s.size - k ∧ i = .int .i64 k ∧ Hid (((nums s).take k).all okByte = true) ∧ Below w.heap.size w wr)
  case atStart => exact ⟨0, Nat.zero_le _, rfl, rfl, Lib.hid (by simp), Below.refl _ _⟩
  case round =>
    obtain ⟨k, hk, rfl, rfl, HE, hb⟩ := hrel
    by_cases hlt : k < s.size
    · have hlt' : k < (nums s).length := by rw [nums_length]; exact hlt
      have EC := Lib.hid (nums_at s hlt)
      have q0 := (nums_range s _ (List.getElem_mem hlt')).1
      have q1 := (nums_range s _ (List.getElem_mem hlt')).2
      rw [nums_at s hlt] at q0 q1
      have HLT := Lib.hid hlt'
      clear hlt'
      go_wp2_with (go_at_call 44; refine (in_any _ _ _ _).mono ?_; rintro e w1 ⟨rfl, rfl⟩)
      all_goals first
        | (go_ret
           refine ⟨ret_bool ?_, hb⟩
           rw [← HR.out]
           simp only [nameMay, all_bad HLT.out (by rw [EC.out]; exact bad_c ‹_› ‹_› ‹_›), Bool.and_false])
        | (go_roundg (s.size - (k + 1))
           case measure => omega
           case rel => exact ⟨k + 1, by omega, rfl, by go_num, Lib.hid (all_take_step HLT.out HE.out (by rw [EC.out]; first | exact ok_c (.inl ‹_›) | exact ok_c (.inr (.inl ‹_›)) | exact ok_c (.inr (.inr ‹_›)))), hb⟩)
    · have hfin : (nums s).all okByte = true := by have := HE.out; rwa [List.take_of_length_le (by rw [nums_length]; omega)] at this
      have hres : inR (s.size : Int) 1 10 = r := by rw [← HR.out, Bool.eq_iff_iff]; simp [nameMay, inR, hfin]; omega
      have HF := Lib.hid hres
      clear hfin hres
      go_wp2_with (go_at_call 44; refine (in_any _ _ _ _).mono ?_; rintro e w1 ⟨rfl, rfl⟩)
      go_ret
      exact ⟨ret_bool HF.out, hb⟩
end Go.Proofs.Ytmpknhefkhjfpaa
