/- Texts of mine that come as one: NameR NameMay OpenStr NameB. -/
import Derived.Test.YtalnnghnipoogaaDoorRO
import Derived.Test.YtalnnghnipoogaaDoorKG
import Derived.Test.YtalnnghnipoogaaDoorMO
/- The walk of the reference's NameMay. -/
namespace Go.Proofs.YtalnnghnipoogaaDoor
open Go.RowKit

def okByte (c : Int) : Bool := decide ((97 ≤ c ∧ c ≤ 122) ∨ (48 ≤ c ∧ c ≤ 57) ∨ c = 46)

theorem all_take_step {l : List Int} {k : Nat} (hk : k < l.length) (ha : (l.take k).all okByte = true) (hb : okByte l[k] = true) : (l.take (k + 1)).all okByte = true := by
  rw [List.take_succ_eq_append_getElem hk, List.all_append, ha]; simp [hb]
def nums (s : ByteArray) : List Int := s.data.toList.map fun b => (b.toNat : Int)
def nameMay (s : ByteArray) : Bool := decide (1 ≤ s.size ∧ s.size ≤ 10) && (nums s).all okByte
theorem nums_length (s : ByteArray) : (nums s).length = s.size := by simp [nums]
theorem nums_range (s : ByteArray) : ∀ c ∈ nums s, 0 ≤ c ∧ c ≤ 255 := by
  intro c hc
  obtain ⟨b, _, rfl⟩ := List.mem_map.1 hc
  have := b.toNat_lt
  omega

end Go.Proofs.YtalnnghnipoogaaDoor

/- The walks of base.Name, of the library's ContainsFunc and IndexFunc at its closure, and of the reference's NameMay. -/
namespace Go.Proofs.YtalnnghnipoogaaDoor
open Go.RowKit

set_option maxHeartbeats 1000000 in
theorem nameClosure_any (c : Int) (w : World) (h0 : 0 ≤ c) (h1 : c ≤ 255) : Calls Tryd.prog 77 #[.int .u8 c] w fun e w' => e = .returned (.bool (!okByte c)) ∧ w = w' := by
  go_enter Tryd.func77, Tryd.ntmps77
  go_wp2
  all_goals (go_ret; refine ⟨ret_bool ?_, rfl⟩)
  all_goals (rw [Bool.eq_iff_iff]; simp [okByte]; omega)

def firstBad (l : List Int) : Int := if l.all okByte then -1 else (l.findIdx (fun c => !okByte c) : Nat)
theorem firstBad_none {l : List Int} (h : l.all okByte = true) : firstBad l = -1 := by simp [firstBad, h]
theorem firstBad_at {l : List Int} {k : Nat} (hk : k < l.length) (ha : (l.take k).all okByte = true) (hb : okByte l[k] = false) : firstBad l = k := by
  have hn : l.all okByte = false := by
    rw [Bool.eq_false_iff]; intro h
    have := List.all_eq_true.1 h l[k] (List.getElem_mem hk)
    rw [hb] at this; cases this
  have : l.findIdx (fun c => !okByte c) = k := by
    rw [List.findIdx_eq hk]
    refine ⟨by simp [hb], fun j hj => ?_⟩
    have := List.all_eq_true.1 ha l[j] (by rw [List.mem_take_iff_getElem]; exact ⟨j, by omega, rfl⟩)
    simp [this]
  simp [firstBad, hn, this]
theorem firstBad_nonneg {l : List Int} : (decide (0 ≤ firstBad l)) = !l.all okByte := by
  cases h : l.all okByte
  · simp [firstBad, h]
  · simp [firstBad, h]

def enByte (n : Int) : List Value := [.int .u8 n]
abbrev BytesAt (w : World) (v : Value) (xs : List Int) : Prop := SlAt 1 1 enByte w v xs
theorem byte_cell {w wr : World} {b off k : Nat} {xs : List Int} (hb : Below w.heap.size w wr) (hbb : b < w.heap.size)
    (h : ∀ i x, xs[i]? = some x → ∀ j u, (enByte x)[j]? = some u → w.cell? ⟨b, off + i * 1 + j, none⟩ = some u) (hk : k < xs.length) :
    wr.cell? ⟨b, off + k, none⟩ = some (.int .u8 xs[k]) := by
  have := (hb.cell (p := ⟨b, _, none⟩) hbb).trans (h k xs[k] (by simp [hk]) 0 _ rfl)
  simpa using this

set_option maxHeartbeats 1000000 in
theorem indexFunc_any {v : Value} {xs : List Int} {w : World} (ha : BytesAt w v xs) (hq : ∀ c ∈ xs, 0 ≤ c ∧ c ≤ 255) :
    Calls Tryd.prog 94 #[v, .func (.func 77) #[] #[]] w fun e w' => e = .returned (.int .i64 (firstBad xs)) ∧ w = w' := by
  obtain ⟨ao, ca, rfl, a1, a2, a3, a4, a5⟩ := ha
  go_enter Tryd.func94, Tryd.ntmps94
  go_wp2_with fail
  go_loopg [5, 8] xs.length (fun g _ i wr => ∃ k : Nat, k ≤ xs.length ∧ g = xs.length - k ∧ i = .int .i64 k ∧ Hid ((xs.take k).all okByte = true) ∧ w = wr)
  case atStart => exact ⟨0, Nat.zero_le _, rfl, rfl, Lib.hid (by simp), rfl⟩
  case round =>
    obtain ⟨k, hk, rfl, rfl, HE, rfl⟩ := hrel
    by_cases hlt : k < xs.length
    · obtain ⟨ab, aoff, rfl, abb, ac⟩ := a5 (by omega)
      have c0 := byte_cell (Below.refl _ _) abb ac hlt
      clear ac a5
      obtain ⟨q0, q1⟩ := hq _ (List.getElem_mem hlt)
      obtain ⟨c, hc⟩ : ∃ c, xs[k] = c := ⟨_, rfl⟩
      rw [hc] at c0 q0 q1
      have EC := Lib.hid hc
      clear hc
      cases hok : okByte c
      · have hfin : firstBad xs = k := firstBad_at hlt HE.out (by rw [EC.out]; exact hok)
        have HF := Lib.hid hfin
        clear hfin
        go_wp2_with (go_at_call 77; refine (nameClosure_any _ _ (by omega) (by omega)).mono ?_; rintro e w1 ⟨rfl, rfl⟩)
        go_ret
        exact ⟨ret_int HF.out.symm, rfl⟩
      · have HK := Lib.hid hok
        go_wp2_with (go_at_call 77; refine (nameClosure_any _ _ (by omega) (by omega)).mono ?_; rintro e w1 ⟨rfl, rfl⟩)
        go_roundg (xs.length - (k + 1))
        case measure => omega
        case rel => exact ⟨k + 1, by omega, rfl, by go_num, Lib.hid (all_take_step hlt HE.out (by rw [EC.out]; exact HK.out)), rfl⟩
    · have hfin : firstBad xs = -1 := firstBad_none (by have := HE.out; rwa [List.take_of_length_le (by omega)] at this)
      have HF := Lib.hid hfin
      clear hfin
      go_wp2
      go_ret
      exact ⟨ret_int HF.out.symm, rfl⟩

theorem containsFunc_any {v : Value} {xs : List Int} {w : World} (ha : BytesAt w v xs) (hq : ∀ c ∈ xs, 0 ≤ c ∧ c ≤ 255) :
    Calls Tryd.prog 76 #[v, .func (.func 77) #[] #[]] w fun e w' => e = .returned (.bool (!xs.all okByte)) ∧ w = w' := by
  obtain ⟨z, hz⟩ : ∃ z, firstBad xs = z := ⟨_, rfl⟩
  have hres : decide (0 ≤ z) = !xs.all okByte := by rw [← hz]; exact firstBad_nonneg
  have HR := Lib.hid hres
  have h := indexFunc_any ha hq
  rw [hz] at h
  have H := Lib.hid h
  clear h hres hz
  go_enter Tryd.func76, Tryd.ntmps76
  go_wp2_with (go_at_call 94; refine H.out.mono ?_; rintro e w1 ⟨rfl, rfl⟩)
  go_ret
  exact ⟨ret_bool HR.out, rfl⟩
end Go.Proofs.YtalnnghnipoogaaDoor

/- Arguments that are strings, read as data. -/
namespace Go.Proofs.YtalnnghnipoogaaDoor
open Go.ChangeShapes Go.WideShapes Go.ChangeAt Go.RowKit Go.Deep
end Go.Proofs.YtalnnghnipoogaaDoor

/- The walks of base.Name, of the reference's NameMay, and of the law BaseNames. -/
namespace Go.Proofs.YtalnnghnipoogaaDoor
open Go.RowKit

theorem size_list (s : ByteArray) : s.toList.length = s.size := by rw [ByteArray.toList_eq]; simp
theorem row_at (s : ByteArray) (cap i : Nat) (h : i < s.size) : (bytesRow s cap)[i]? = some (.int .u8 ((nums s)[i]'(by rw [nums_length]; exact h))) := by
  have h' : i < s.data.size := h
  simp [bytesRow, nums, Array.getElem?_append, h]
theorem bytesAt_new (s : ByteArray) (w : World) (e : TypeId) (m : Nat × Nat) (cap : Nat) (hc : s.size ≤ cap) (hm : cap ≤ 9223372036854775807) (hs : s.size ≤ 140737488351232) :
    BytesAt (w.alloc (.cells (bytesRow s cap) e m)).drew (.slice (some ⟨w.heap.size, 0, none⟩) s.size cap) (nums s) := by
  refine ⟨some ⟨w.heap.size, 0, none⟩, cap, by rw [nums_length], by rw [nums_length]; exact hc, hm, by rw [nums_length]; omega, by simp, fun _ => ⟨w.heap.size, 0, rfl, by simp, fun i x hx j u hu => ?_⟩⟩
  obtain ⟨hi, rfl⟩ := List.getElem?_eq_some_iff.1 hx
  rw [nums_length] at hi
  have hj : j = 0 := by
    have := (List.getElem?_eq_some_iff.1 hu).1
    simp [enByte] at this; omega
  subst hj
  simp [enByte] at hu
  subst hu
  have e1 : (w.alloc (.cells (bytesRow s cap) e m)).drew.heap[w.heap.size]? = some (.cells (bytesRow s cap) e m) := by show (w.heap.push _)[w.heap.size]? = _; simp
  simp only [World.cell?, e1]
  simpa using row_at s cap i hi

set_option maxHeartbeats 1000000 in
theorem name_any (s : ByteArray) (w : World) (hs : s.size ≤ 140737488351232) : Calls Tryd.prog 35 #[.string s] w fun e w' => e = .returned (.bool (nameMay s)) ∧ Below w.heap.size w w' := by
  obtain ⟨r, hr⟩ : ∃ r, nameMay s = r := ⟨_, rfl⟩
  rw [hr]
  by_cases h0 : s.size = 0
  · have hrf : false = r := by rw [← hr]; simp [nameMay, h0]
    have HR := Lib.hid hrf
    have hse : s.toList = [] := List.eq_nil_of_length_eq_zero (by rw [size_list]; exact h0)
    clear hrf hr h0
    go_enter Tryd.func35, Tryd.ntmps35
    go_wp2_with fail
    go_ret
    exact ⟨ret_bool HR.out, Below.refl _ _⟩
  · have hse2 : ¬ s.toList = [] := fun h => h0 (by rw [← size_list, h]; rfl)
    have hse : s.toList.isEmpty = false := by simpa using hse2
    by_cases h10 : s.size ≤ 10
    · have hcv := fun w => run_bytes_of_string (P := Tryd.prog) w 9 68 5 s Tryd.underlying9 Tryd.underlying68 Tryd.underlying5
      have hrf : (nums s).all okByte = r := by rw [← hr]; simp [nameMay]; intro _; omega
      have HR := Lib.hid hrf
      have hcap := grownCap_ge w s.size 0 5
      have hcap2 := grownCap_le_maxLen w s.size 0 5 (by unfold maxLen; omega)
      have HC := Lib.hid (containsFunc_any (bytesAt_new s w 5 ((bytesRow s (grownCap w s.size 0 5)).size, (bytesRow s (grownCap w s.size 0 5)).size + 1) _ hcap (by unfold maxLen at hcap2; omega) hs) (nums_range s))
      clear hrf hr hcap hcap2
      go_enter Tryd.func35, Tryd.ntmps35
      go_wp2_with (go_at_call 76; refine HC.out.mono ?_; rintro e w1 ⟨rfl, rfl⟩)
      go_ret
      exact ⟨ret_bool HR.out, (by repeat (first | exact Below.refl _ _ | assumption | refine below_dn ?_ _ | refine Below.drew ?_ | refine Below.alloc ?_ (by simp <;> omega) _ | refine Below.setCell ?_ (by simp <;> omega) _))⟩
    · have hrf : false = r := by rw [← hr]; simp [nameMay]; omega
      have HR := Lib.hid hrf
      clear hrf hr
      go_enter Tryd.func35, Tryd.ntmps35
      go_wp2_with fail
      go_ret
      exact ⟨ret_bool HR.out, Below.refl _ _⟩

end Go.Proofs.YtalnnghnipoogaaDoor
