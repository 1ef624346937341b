/- Plain mathematics: what the functions compute, on lists and integers. No program in sight. -/
namespace Go.Proofs.Ytmpknhefkhjfpaa

structure Roll where
  c : Int
  s : Int
  mi : Int
  ma : Int
  t : Int
  l : Int
  deriving DecidableEq, Inhabited

def within (n most : Int) : Bool := decide (-most ≤ n) && decide (n ≤ most)
def inR (n low high : Int) : Bool := decide (low ≤ n) && decide (n ≤ high)
def Roll.zero : Roll := ⟨0, 0, 0, 0, 0, 0⟩
def Roll.ranged (r : Roll) : Prop := 0 ≤ r.c ∧ r.c ≤ 1073741824 ∧ -1125899906842624 ≤ r.s ∧ r.s ≤ 1125899906842624 ∧ -1000000 ≤ r.mi ∧ r.mi ≤ 1000000 ∧ -1000000 ≤ r.ma ∧ r.ma ≤ 1000000 ∧
  -1000000 ≤ r.l ∧ r.l ≤ 1000000 ∧ 0 ≤ r.t ∧ r.t ≤ 1048575
instance (r : Roll) : Decidable r.ranged := by unfold Roll.ranged; infer_instance
def Roll.formed (r : Roll) : Prop := r.mi ≤ r.l ∧ r.l ≤ r.ma ∧ r.c * r.mi ≤ r.s ∧ r.s ≤ r.c * r.ma
instance (r : Roll) : Decidable r.formed := by unfold Roll.formed; infer_instance
/-- What 'Check' answers: 0, or the error's number. -/
def rollCheck (r : Roll) : Int := if r.ranged then (if r.c = 0 then (if r = Roll.zero then 0 else 4) else if r.formed then 0 else 4) else 2
def rollOf (time value : Int) : Roll × Int := if 0 ≤ time ∧ time ≤ 1048575 ∧ -1000000 ≤ value ∧ value ≤ 1000000 then (⟨1, value, value, value, time, value⟩, 0) else (Roll.zero, 2)
/-- All points of both, with no limit. -/
def Roll.join (a b : Roll) : Roll :=
  if b.c = 0 then a else if a.c = 0 then b else
  { c := a.c + b.c, s := a.s + b.s, mi := min a.mi b.mi, ma := max a.ma b.ma,
    t := if a.t < b.t ∨ (a.t = b.t ∧ a.l < b.l) then b.t else a.t, l := if a.t < b.t ∨ (a.t = b.t ∧ a.l < b.l) then b.l else a.l }
def rollMerge (a b : Roll) : Roll × Int :=
  if rollCheck a ≠ 0 then (Roll.zero, rollCheck a) else if rollCheck b ≠ 0 then (Roll.zero, rollCheck b) else
  if a.c = 0 ∨ b.c = 0 then (a.join b, 0) else
  if a.c + b.c > 1073741824 ∨ within (a.s + b.s) 1125899906842624 = false then (Roll.zero, 1) else (a.join b, 0)

theorem within_true {n m : Int} : within n m = true ↔ -m ≤ n ∧ n ≤ m := by simp [within]
theorem within_false {n m : Int} : within n m = false ↔ n < -m ∨ m < n := by simp [within]; omega
theorem inR_true {n l h : Int} : inR n l h = true ↔ l ≤ n ∧ n ≤ h := by simp [inR]
theorem inR_false {n l h : Int} : inR n l h = false ↔ n < l ∨ h < n := by simp [inR]; omega
theorem rc2 {r : Roll} (h : ¬ r.ranged) : rollCheck r = 2 := by simp [rollCheck, h]
theorem rc0z {r : Roll} (h : r = Roll.zero) : rollCheck r = 0 := by subst h; decide
theorem rc4z {r : Roll} (h : r.ranged) (hc : r.c = 0) (hz : r ≠ Roll.zero) : rollCheck r = 4 := by simp [rollCheck, h, hc, hz]
theorem rc0 {r : Roll} (h : r.ranged) (hc : r.c ≠ 0) (hf : r.formed) : rollCheck r = 0 := by simp [rollCheck, h, hc, hf]
theorem rc4 {r : Roll} (h : r.ranged) (hc : r.c ≠ 0) (hf : ¬ r.formed) : rollCheck r = 4 := by simp [rollCheck, h, hc, hf]
theorem mul_range {c m : Int} (h0 : 0 ≤ c) (h1 : c ≤ 1073741824) (h2 : -1000000 ≤ m) (h3 : m ≤ 1000000) : -1073741824000000 ≤ c * m ∧ c * m ≤ 1073741824000000 := by
  have a1 : c * m ≤ c * 1000000 := Int.mul_le_mul_of_nonneg_left h3 h0
  have a2 : c * (-1000000) ≤ c * m := Int.mul_le_mul_of_nonneg_left h2 h0
  omega
end Go.Proofs.Ytmpknhefkhjfpaa
