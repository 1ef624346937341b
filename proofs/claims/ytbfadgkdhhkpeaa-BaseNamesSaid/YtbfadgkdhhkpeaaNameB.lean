/- The walks of base.Name, of the reference's NameMay, and of the law BaseNames. -/
import Derived.Test.YtbfadgkdhhkpeaaNameMay
import Derived.Test.YtbfadgkdhhkpeaaOpenStr
namespace Go.Proofs.Ytbfadgkdhhkpeaa
open Go.RowKit

def nums (s : ByteArray) : List Int := s.data.toList.map fun b => (b.toNat : Int)
def nameMay (s : ByteArray) : Bool := decide (1 ≤ s.size ∧ s.size ≤ 10) && (nums s).all okByte
theorem nums_length (s : ByteArray) : (nums s).length = s.size := by simp [nums]
theorem nums_range (s : ByteArray) : ∀ c ∈ nums s, 0 ≤ c ∧ c ≤ 255 := by
  intro c hc
  obtain ⟨b, _, rfl⟩ := List.mem_map.1 hc
  have := b.toNat_lt
  omega

theorem size_list (s : ByteArray) : s.toList.length = s.size := by rw [ByteArray.toList_eq]; simp
theorem row_at (s : ByteArray) (cap i : Nat) (h : i < s.size) : (bytesRow s cap)[i]? = some (.int .u8 ((nums s)[i]'(by rw [nums_length]; exact h))) := by
  have h' : i < s.data.size := h
  simp [bytesRow, nums, Array.getElem?_append, h', h]
/-- What '[]byte(s)' has laid. -/
theorem bytesAt_new (s : ByteArray) (w : World) (e : TypeId) (m : Nat × Nat) (cap : Nat) (hc : s.size ≤ cap) (hm : cap ≤ 9223372036854775807) (hs : s.size ≤ 140737488351232) :
    BytesAt (w.alloc (.cells (bytesRow s cap) e m)).drew (.slice (some ⟨w.heap.size, 0, none⟩) s.size cap) (nums s) := by
  refine ⟨some ⟨w.heap.size, 0, none⟩, cap, by rw [nums_length], by rw [nums_length]; exact hc, hm, by rw [nums_length]; omega, by simp, fun _ => ⟨w.heap.size, 0, rfl, by simp, fun i x hx j u hu => ?_⟩⟩
  obtain ⟨hi, rfl⟩ := List.getElem?_eq_some_iff.1 hx
  rw [nums_length] at hi
  have hj : j = 0 := by
    have := (List.getElem?_eq_some_iff.1 hu).1
    simp [enByte] at this; omega
  subst hj
  simp [enByte] at hu
  subst hu
  have e1 : (w.alloc (.cells (bytesRow s cap) e m)).drew.heap[w.heap.size]? = some (.cells (bytesRow s cap) e m) := by show (w.heap.push _)[w.heap.size]? = _; simp
  simp only [World.cell?, e1]
  simpa using row_at s cap i hi

set_option maxHeartbeats 1000000 in
theorem name_any (s : ByteArray) (w : World) (hs : s.size ≤ 140737488351232) : Calls Try.prog 29 #[.string s] w fun e w' => e = .returned (.bool (nameMay s)) ∧ Below w.heap.size w w' := by
  obtain ⟨r, hr⟩ : ∃ r, nameMay s = r := ⟨_, rfl⟩
  rw [hr]
  by_cases h0 : s.size = 0
  · have hrf : false = r := by rw [← hr]; simp [nameMay, h0]
    have HR := Lib.hid hrf
    have hse : s.toList = [] := List.eq_nil_of_length_eq_zero (by rw [size_list]; exact h0)
    clear hrf hr h0
    go_enter Try.func29, Try.ntmps29
    go_wp2_with fail
    go_ret
    exact ⟨ret_bool HR.out, Below.refl _ _⟩
  · have hse2 : ¬ s.toList = [] := fun h => h0 (by rw [← size_list, h]; rfl)
    have hse : s.toList.isEmpty = false := by simpa using hse2
    by_cases h10 : s.size ≤ 10
    · have hcv := fun w => run_bytes_of_string (P := Try.prog) w 9 89 5 s Try.underlying9 Try.underlying89 Try.underlying5
      have hrf : (nums s).all okByte = r := by rw [← hr]; simp [nameMay]; intro _; omega
      have HR := Lib.hid hrf
      have hcap := grownCap_ge w s.size 0 5
      have hcap2 := grownCap_le_maxLen w s.size 0 5 (by unfold maxLen; omega)
      have HC := Lib.hid (containsFunc_any (bytesAt_new s w 5 ((bytesRow s (grownCap w s.size 0 5)).size, (bytesRow s (grownCap w s.size 0 5)).size + 1) _ hcap (by unfold maxLen at hcap2; omega) hs) (nums_range s))
      clear hrf hr hcap hcap2
      go_enter Try.func29, Try.ntmps29
      go_wp2_with (go_at_call 60; refine HC.out.mono ?_; rintro e w1 ⟨rfl, rfl⟩)
      go_ret
      exact ⟨ret_bool HR.out, (by repeat (first | exact Below.refl _ _ | assumption | refine below_dn ?_ _ | refine Below.drew ?_ | refine Below.alloc ?_ (by simp <;> omega) _ | refine Below.setCell ?_ (by simp <;> omega) _))⟩
    · have hrf : false = r := by rw [← hr]; simp [nameMay]; omega
      have HR := Lib.hid hrf
      clear hrf hr
      go_enter Try.func29, Try.ntmps29
      go_wp2_with fail
      go_ret
      exact ⟨ret_bool HR.out, Below.refl _ _⟩

theorem nums_at (s : ByteArray) {k : Nat} (h : k < s.size) : (nums s)[k]'(by rw [nums_length]; exact h) = ((s[k]'h).toNat : Int) := by
  simp [nums]; rfl

theorem ok_c {c : Int} (h : inR c 97 122 = true ∨ inR c 48 57 = true ∨ (c != 46) = false) : okByte c = true := by
  simp only [inR_true, bne_eq_false_iff_eq] at h; simp [okByte]; omega
theorem bad_c {c : Int} (h1 : ¬ inR c 97 122 = true) (h2 : ¬ inR c 48 57 = true) (h3 : (c != 46) = true) : okByte c = false := by
  simp only [inR_true, bne_iff_ne, ne_eq] at h1 h2 h3; simp [okByte]; omega
theorem all_bad {l : List Int} {k : Nat} (hk : k < l.length) (hb : okByte l[k] = false) : l.all okByte = false := by
  rw [Bool.eq_false_iff]; intro h
  have := List.all_eq_true.1 h l[k] (List.getElem_mem hk)
  rw [hb] at this; cases this

set_option maxHeartbeats 1000000 in
theorem refNameMay_any (s : ByteArray) (w : World) (hs : s.size ≤ 140737488351232) : Calls Try.prog 30 #[.string s] w fun e w' => e = .returned (.bool (nameMay s)) ∧ Below w.heap.size w w' := by
  obtain ⟨r, hr⟩ : ∃ r, nameMay s = r := ⟨_, rfl⟩
  rw [hr]
  have HR := Lib.hid hr
  clear hr
  go_enter Try.func30, Try.ntmps30
  go_wp2_with fail
  go_loopg [3] s.size (fun g i wr => ∃ k : Nat, k ≤ s.size ∧ g = s.size - k ∧ i = .int .i64 k ∧ Hid (((nums s).take k).all okByte = true) ∧ Below w.heap.size w wr)
  case atStart => exact ⟨0, Nat.zero_le _, rfl, rfl, Lib.hid (by simp), Below.refl _ _⟩
  case round =>
    obtain ⟨k, hk, rfl, rfl, HE, hb⟩ := hrel
    by_cases hlt : k < s.size
    · have hlt' : k < (nums s).length := by rw [nums_length]; exact hlt
      have EC := Lib.hid (nums_at s hlt)
      have q0 := (nums_range s _ (List.getElem_mem hlt')).1
      have q1 := (nums_range s _ (List.getElem_mem hlt')).2
      rw [nums_at s hlt] at q0 q1
      have HLT := Lib.hid hlt'
      clear hlt'
      go_wp2_with (go_at_call 52; refine (in_any _ _ _ _).mono ?_; rintro e w1 ⟨rfl, rfl⟩)
      all_goals first
        | (go_ret
           refine ⟨ret_bool ?_, hb⟩
           rw [← HR.out]
           simp only [nameMay, all_bad HLT.out (by rw [EC.out]; exact bad_c ‹_› ‹_› ‹_›), Bool.and_false])
        | (go_roundg (s.size - (k + 1))
           case measure => omega
           case rel => exact ⟨k + 1, by omega, rfl, by go_num, Lib.hid (all_take_step HLT.out HE.out (by rw [EC.out]; first | exact ok_c (.inl ‹_›) | exact ok_c (.inr (.inl ‹_›)) | exact ok_c (.inr (.inr ‹_›)))), hb⟩)
    · have hfin : (nums s).all okByte = true := by have := HE.out; rwa [List.take_of_length_le (by rw [nums_length]; omega)] at this
      have hres : inR (s.size : Int) 1 10 = r := by rw [← HR.out, Bool.eq_iff_iff]; simp [nameMay, inR, hfin]; omega
      have HF := Lib.hid hres
      clear hfin hres
      go_wp2_with (go_at_call 52; refine (in_any _ _ _ _).mono ?_; rintro e w1 ⟨rfl, rfl⟩)
      go_ret
      exact ⟨ret_bool HF.out, hb⟩

theorem baseNames_any (s : ByteArray) (w : World) (hs : s.size ≤ 140737488351232) : Calls Try.prog 9 #[.string s] w fun e w' => e = .returned (.bool true) ∧ Below w.heap.size w w' := by
  obtain ⟨r, hr⟩ : ∃ r, nameMay s = r := ⟨_, rfl⟩
  have h1 := fun w => name_any s w hs
  have h2 := fun w => refNameMay_any s w hs
  rw [hr] at h1 h2
  have H1 := Lib.hid h1
  have H2 := Lib.hid h2
  clear h1 h2 hr
  go_enter Try.func9, Try.ntmps9
  go_wp2_with (first
    | (go_at_call 29; refine (H1.out _).mono ?_; rintro e w1 ⟨rfl, hb1⟩)
    | (go_at_call 30; refine (H2.out _).mono ?_; rintro e w2 ⟨rfl, hb2⟩))
  go_ret
  exact ⟨by simp, hb1.trans (hb2.mono hb1.size)⟩
end Go.Proofs.Ytbfadgkdhhkpeaa
