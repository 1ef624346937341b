/- A tree that was grown by putting entries, one by one: plain. -/
import Derived.Test.YtggcinmjmkfboaaDoorPU
namespace Go.Proofs.YtggcinmjmkfboaaDoor

theorem look_cnt {m : Nat} {k : Int} : ∀ {E : List Ent}, (∀ e ∈ E, e.is.c ≤ m) → (look E k).c ≤ (m : Int) * (E.length : Int)
  | [], _ => by simp [look, Roll.zero]
  | e :: E, h => by
    have ih := look_cnt (k := k) (E := E) fun x hx => h x (by simp [hx])
    have h1 := h e (by simp)
    have e1 : (m : Int) * (((e :: E).length : Nat) : Int) = (m : Int) * (E.length : Int) + m := by rw [List.length_cons]; push_cast; rw [Int.mul_add, Int.mul_one]
    rw [e1]
    unfold look
    split
    · rw [join_c]; omega
    · omega
/-- The tree t knows what the entries E tell, of which each may be, and is not greater than it need be. -/
structure Grown (E : List Ent) (t : Tr) : Prop where
  fault : treeFault t = 0
  ev : Eqv t.all E
  ok : ∀ e ∈ E, EntOk e
  wt : wtT t ≤ 3 + E.length
theorem Grown.goods {E : List Ent} {t : Tr} (h : Grown E t) : Goods E := h.ev.2.1
theorem Grown.look {E : List Ent} {t : Tr} (h : Grown E t) (k : Int) : look t.all k = Go.Proofs.YtggcinmjmkfboaaDoor.look E k := h.ev.2.2 k
theorem Grown.start : Grown [] startT := by
  obtain ⟨h1, h2, -, -, -, h6⟩ := made_new
  exact ⟨h1, h2, (fun e h => by cases h), h6⟩
theorem Grown.cons_ev {E : List Ent} {t : Tr} {e : Ent} (h : Grown E t) (he : EntOk e) : Eqv (e :: t.all) (e :: E) :=
  Eqv.append (a := [e]) (b := [e]) (Eqv.refl fun x hx => by rw [List.mem_singleton] at hx; subst hx; exact he.good) h.ev
/-- Few in number: all can come together. -/
theorem Grown.small {E : List Ent} {t : Tr} {e : Ent} (h : Grown E t) (he : EntOk e) (hs : Small (e :: E)) : Small (e :: t.all) := (h.cons_ev he).small.2 hs
theorem small_cnt {m : Nat} {E : List Ent} (h : ∀ e ∈ E, e.is.c ≤ m) (hl : m * E.length ≤ 1073741824) : Small E := fun k => by
  have := look_cnt (k := k) h
  have h2 : ((m * E.length : Nat) : Int) = (m : Int) * (E.length : Int) := by push_cast; rfl
  omega
theorem Grown.putE {E : List Ent} {t : Tr} {e : Ent} (h : Grown E t) (he : EntOk e) (hs : Small (e :: E)) : putE t e.key e.is = 0 := by
  unfold Go.Proofs.YtggcinmjmkfboaaDoor.putE
  obtain ⟨h1, h2, h3, h4⟩ := he
  have h5 : (Go.Proofs.YtggcinmjmkfboaaDoor.look t.all e.key).c + e.is.c ≤ 1073741824 := by
    have := hs e.key
    unfold Go.Proofs.YtggcinmjmkfboaaDoor.look at this
    rw [if_pos rfl, join_c] at this
    rw [h.look]; omega
  rw [if_neg (by simp [h.fault]), if_neg (by omega), if_neg (by simp [h2]), if_pos h5]
theorem Grown.put {E : List Ent} {t t2 : Tr} {e : Ent} {h2 : Nat} {l2 : List Int} (h : Grown E t) (he : EntOk e) (hn : E.length ≤ 2900) (hf : Full t2 h2 l2) (h3 : Eqv t2.all (e :: t.all)) (h4 : wtT t2 ≤ wtT t + 1) : treeFault t2 = 0 ∧ Grown (e :: E) t2 := by
  have hw := h.wt
  have hft := hf.fault (by omega)
  exact ⟨hft, hft, h3.trans (h.cons_ev he), fun x hx => by
    rcases List.mem_cons.1 hx with rfl | hx
    · exact he
    · exact h.ok x hx, by rw [List.length_cons]; omega⟩
/-- All that such a tree knows. -/
theorem Grown.knows {E : List Ent} {t : Tr} (h : Grown E t) (hs : Small E) : allT t = some (bag E) := by
  have hg := h.goods
  refine allT_of h.fault (h.ev.trans ⟨hg, bag_goods hg, fun k => (look_bag hg k).symm⟩) (bag_rising hg) fun e he => ?_
  have hlk : Go.Proofs.YtggcinmjmkfboaaDoor.look E e.key = e.is := by rw [← look_bag hg, look_rising (bag_rising hg) he]
  have hgd := bag_goods hg e he
  have hle := hs e.key
  rw [hlk] at hle
  exact ⟨by have := hgd.1; omega, check_good hgd hle⟩
theorem Grown.nodes {E : List Ent} {t : Tr} (h : Grown E t) : t.nodes.length + 1 ≤ 2 * ((3 + E.length) / 3) := by
  obtain ⟨l, hh, -, hf⟩ := valid_full (treeFault_ok h.fault).2
  obtain ⟨k, a1, a2, -⟩ := hf.bound
  have := h.wt
  omega
theorem Grown.get {E : List Ent} {t : Tr} (h : Grown E t) (hs : Small E) {k : Int} : (Go.Proofs.YtggcinmjmkfboaaDoor.look t.all k).c ≤ 1073741824 := by rw [h.look]; exact hs k
end Go.Proofs.YtggcinmjmkfboaaDoor
