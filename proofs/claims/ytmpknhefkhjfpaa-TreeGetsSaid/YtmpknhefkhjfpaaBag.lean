/- Entries that come together at their keys: in whatever order, as much is known. No program in sight. -/
import Derived.Test.YtmpknhefkhjfpaaData
namespace Go.Proofs.Ytmpknhefkhjfpaa

def Fines (l : List Ent) : Prop := ∀ e ∈ l, e.is.Fine
def Goods (l : List Ent) : Prop := ∀ e ∈ l, e.is.Good
/-- Each entry is one that a check lets by. -/
def Checked (l : List Ent) : Prop := ∀ e ∈ l, e.is.c ≠ 0 ∧ rollCheck e.is = 0
def Rising (l : List Ent) : Prop := l.Pairwise fun a b => a.key < b.key
theorem Goods.fines {l : List Ent} (h : Goods l) : Fines l := fun e he => .inr (h e he)
theorem Checked.goods {l : List Ent} (h : Checked l) : Goods l := fun e he => (good_check (h e he).2 (h e he).1).1
theorem Fines.cons {e : Ent} {l : List Ent} (h : Fines (e :: l)) : e.is.Fine ∧ Fines l := ⟨h e (by simp), fun x hx => h x (by simp [hx])⟩
theorem Goods.cons {e : Ent} {l : List Ent} (h : Goods (e :: l)) : e.is.Good ∧ Goods l := ⟨h e (by simp), fun x hx => h x (by simp [hx])⟩

/-- All that is known at a key. -/
def look : List Ent → Int → Roll
  | [], _ => Roll.zero
  | e :: l, k => if e.key = k then e.is.join (look l k) else look l k
theorem look_fine {l : List Ent} (h : Fines l) (k : Int) : (look l k).Fine := by
  induction l with
  | nil => exact fine_zero
  | cons e l ih =>
    have := h.cons
    unfold look
    split
    · exact join_fine this.1 (ih this.2)
    · exact ih this.2
theorem look_append {a b : List Ent} (ha : Fines a) (hb : Fines b) (k : Int) : look (a ++ b) k = (look a k).join (look b k) := by
  induction a with
  | nil => simp only [List.nil_append, look]; rw [zero_join (look_fine hb k)]
  | cons e l ih =>
    have := ha.cons
    simp only [List.cons_append, look]
    split
    · rw [ih this.2, join_assoc this.1 (look_fine this.2 k) (look_fine hb k)]
    · exact ih this.2
theorem look_none {l : List Ent} {k : Int} (h : ∀ e ∈ l, e.key ≠ k) : look l k = Roll.zero := by
  induction l with
  | nil => rfl
  | cons e l ih =>
    unfold look
    rw [if_neg (h e (by simp))]
    exact ih fun x hx => h x (by simp [hx])
theorem look_perm {a b : List Ent} (h : a.Perm b) (ha : Fines a) (k : Int) : look a k = look b k := by
  induction h with
  | nil => rfl
  | cons x _ ih => simp only [look]; rw [ih ha.cons.2]
  | swap x y l =>
    have h1 := ha.cons
    have h2 := h1.2.cons
    simp only [look]
    split <;> split
    · rw [← join_assoc h1.1 h2.1 (look_fine h2.2 k), ← join_assoc h2.1 h1.1 (look_fine h2.2 k), join_comm h1.1 h2.1]
    · rfl
    · rfl
    · rfl
  | trans p _ ih1 ih2 =>
    rw [ih1 ha, ih2 fun e he => ha e (p.mem_iff.2 he)]
theorem look_good {l : List Ent} (h : Goods l) {k : Int} (hk : ∃ e ∈ l, e.key = k) : (look l k).Good := by
  obtain ⟨e, he, hk⟩ := hk
  have hf := look_fine h.fines k
  refine hf.good ?_
  induction l with
  | nil => cases he
  | cons x l ih =>
    have hc := h.cons
    have hf2 := (look_fine hc.2.fines k)
    have p1 := hf2.pos
    unfold look
    by_cases hx : x.key = k
    · rw [if_pos hx, join_c]; have := hc.1.1; omega
    · rw [if_neg hx]
      rcases List.mem_cons.1 he with rfl | he
      · exact absurd hk hx
      · exact ih hc.2 he hf2
theorem look_rising {l : List Ent} {e : Ent} (h : Rising l) (he : e ∈ l) : look l e.key = e.is := by
  induction l with
  | nil => cases he
  | cons x l ih =>
    have hp := List.pairwise_cons.1 h
    unfold look
    rcases List.mem_cons.1 he with rfl | he
    · rw [if_pos rfl, look_none (fun y hy => by have := hp.1 y hy; omega), join_zero]
    · rw [if_neg (by have := hp.1 e he; omega)]; exact ih hp.2 he
/-- Rising entries are known by what is known at each key. -/
theorem look_ext : ∀ {a b : List Ent}, Rising a → Rising b → Goods a → Goods b → (∀ k, look a k = look b k) → a = b
  | [], [], _, _, _, _, _ => rfl
  | [], e :: l, _, hb, _, gb, h => by
    have := look_good gb (k := e.key) ⟨e, by simp, rfl⟩
    rw [← h e.key] at this
    exact absurd this.1 (by simp [look, Roll.zero])
  | e :: l, [], ha, _, ga, _, h => by
    have := look_good ga (k := e.key) ⟨e, by simp, rfl⟩
    rw [h e.key] at this
    exact absurd this.1 (by simp [look, Roll.zero])
  | e :: l, f :: m, ha, hb, ga, gb, h => by
    have pa := List.pairwise_cons.1 ha
    have pb := List.pairwise_cons.1 hb
    have mem : ∀ {x : Ent} {c d : List Ent}, x ∈ c → Goods c → (∀ k, look c k = look d k) → ∃ y ∈ d, y.key = x.key := by
      intro x c d hx gc hcd
      by_cases hd : ∃ y ∈ d, y.key = x.key
      · exact hd
      · have e1 : look d x.key = Roll.zero := look_none fun y hy hk => hd ⟨y, hy, hk⟩
        have e2 := look_good gc (k := x.key) ⟨x, hx, rfl⟩
        rw [hcd, e1] at e2
        exact absurd e2.1 (by decide)
    have hk : e.key = f.key := by
      obtain ⟨y, hy, e1⟩ := mem (x := e) (by simp) ga h
      obtain ⟨z, hz, e2⟩ := mem (x := f) (by simp) gb fun k => (h k).symm
      rcases List.mem_cons.1 hy with rfl | hy
      · exact e1.symm
      · rcases List.mem_cons.1 hz with rfl | hz
        · exact e2
        · have := pb.1 y hy; have := pa.1 z hz; omega
    have he : e.is = f.is := by
      have e1 := look_rising ha (e := e) (by simp)
      have e2 := look_rising hb (e := f) (by simp)
      rw [h e.key, hk, e2] at e1
      exact e1.symm
    have hef : e = f := by cases e; cases f; simp_all
    subst hef
    congr 1
    refine look_ext pa.2 pb.2 ga.cons.2 gb.cons.2 fun k => ?_
    by_cases hk' : e.key = k
    · rw [look_none (fun y hy => by have := pa.1 y hy; omega), look_none (fun y hy => by have := pb.1 y hy; omega)]
    · have := h k
      simpa [look, hk'] using this

/-- Entries with one more, without a limit. -/
def ins : List Ent → Ent → List Ent
  | [], x => [x]
  | e :: l, x => if e.key < x.key then e :: ins l x else if e.key = x.key then ⟨x.key, e.is.join x.is⟩ :: l else x :: e :: l
/-- .. and with the limit: none, if they can't come together. -/
def insC : List Ent → Ent → Option (List Ent)
  | [], x => some [x]
  | e :: l, x => if e.key < x.key then (insC l x).map (e :: ·) else if e.key = x.key then (if e.is.c + x.is.c ≤ 1073741824 then some (⟨x.key, e.is.join x.is⟩ :: l) else none) else some (x :: e :: l)

theorem ins_keys {l : List Ent} {x y : Ent} (h : y ∈ ins l x) : y.key = x.key ∨ ∃ e ∈ l, e.key = y.key := by
  induction l with
  | nil => simp [ins] at h; exact .inl (by rw [h])
  | cons e l ih =>
    unfold ins at h
    split at h
    · rcases List.mem_cons.1 h with rfl | h
      · exact .inr ⟨y, by simp, rfl⟩
      · rcases ih h with h | ⟨z, hz, hk⟩
        · exact .inl h
        · exact .inr ⟨z, by simp [hz], hk⟩
    · split at h
      · rcases List.mem_cons.1 h with rfl | h
        · exact .inl rfl
        · exact .inr ⟨y, by simp [h], rfl⟩
      · rcases List.mem_cons.1 h with rfl | h
        · exact .inl rfl
        · exact .inr ⟨y, h, rfl⟩
theorem ins_rising {l : List Ent} {x : Ent} (h : Rising l) : Rising (ins l x) := by
  induction l with
  | nil => simp [ins, Rising]
  | cons e l ih =>
    have hp := List.pairwise_cons.1 h
    unfold ins
    split
    · refine List.pairwise_cons.2 ⟨fun y hy => ?_, ih hp.2⟩
      rcases ins_keys hy with h | ⟨z, hz, hk⟩
      · omega
      · have := hp.1 z hz; omega
    · split
      · exact List.pairwise_cons.2 ⟨fun y hy => by have := hp.1 y hy; simp only; omega, hp.2⟩
      · refine List.pairwise_cons.2 ⟨fun y hy => ?_, h⟩
        rcases List.mem_cons.1 hy with rfl | hy
        · omega
        · have := hp.1 y hy; omega
theorem ins_goods {l : List Ent} {x : Ent} (h : Goods l) (hx : x.is.Good) : Goods (ins l x) := by
  induction l with
  | nil => intro e he; simp [ins] at he; rw [he]; exact hx
  | cons e l ih =>
    have hc := h.cons
    unfold ins
    split
    · intro y hy
      rcases List.mem_cons.1 hy with rfl | hy
      · exact hc.1
      · exact ih hc.2 y hy
    · split
      · intro y hy
        rcases List.mem_cons.1 hy with rfl | hy
        · exact join_good hc.1 hx
        · exact hc.2 y hy
      · intro y hy
        rcases List.mem_cons.1 hy with rfl | hy
        · exact hx
        · exact h y hy
theorem look_ins {l : List Ent} {x : Ent} (h : Fines l) (hx : x.is.Fine) (k : Int) : look (ins l x) k = if x.key = k then (look l k).join x.is else look l k := by
  induction l with
  | nil =>
    simp only [ins, look]
    split
    · rw [join_zero, zero_join hx]
    · rfl
  | cons e l ih =>
    have hc := h.cons
    have hf := look_fine hc.2 k
    unfold ins
    split
    · unfold look
      rw [ih hc.2]
      by_cases h1 : e.key = k
      · rw [if_pos h1, if_pos h1, if_neg (by omega), if_neg (by omega)]
      · rw [if_neg h1, if_neg h1]
    · split
      · simp only [look]
        by_cases h1 : x.key = k
        · rw [if_pos h1, if_pos h1, if_pos (by omega), join_assoc hc.1 hx hf, join_assoc hc.1 hf hx, join_comm hx hf]
        · rw [if_neg h1, if_neg h1, if_neg (by omega)]
      · simp only [look]
        by_cases h1 : x.key = k
        · rw [if_pos h1, if_pos h1, if_neg (by omega), join_comm hx hf]
        · rw [if_neg h1, if_neg h1]
theorem insC_eq {l : List Ent} {x : Ent} (h : Rising l) (hx : x.is.c ≤ 1073741824) : insC l x = if (look l x.key).c + x.is.c ≤ 1073741824 then some (ins l x) else none := by
  induction l with
  | nil =>
    have : (look [] x.key).c + x.is.c ≤ 1073741824 := by simpa [look, Roll.zero] using hx
    rw [if_pos this]; rfl
  | cons e l ih =>
    have hp := List.pairwise_cons.1 h
    by_cases h1 : e.key < x.key
    · have e1 : look (e :: l) x.key = look l x.key := by show (if e.key = x.key then _ else _) = _; rw [if_neg (by omega)]
      have e2 : ins (e :: l) x = e :: ins l x := by show (if e.key < x.key then _ else _) = _; rw [if_pos h1]
      have e3 : insC (e :: l) x = (insC l x).map (e :: ·) := by show (if e.key < x.key then _ else _) = _; rw [if_pos h1]
      rw [e1, e2, e3, ih hp.2]
      by_cases h2 : (look l x.key).c + x.is.c ≤ 1073741824
      · rw [if_pos h2, if_pos h2]; rfl
      · rw [if_neg h2, if_neg h2]; rfl
    · have hl : look l x.key = Roll.zero := look_none fun y hy => by have := hp.1 y hy; omega
      by_cases h2 : e.key = x.key
      · have e1 : look (e :: l) x.key = e.is := by show (if e.key = x.key then _ else _) = _; rw [if_pos h2, hl, join_zero]
        have e2 : ins (e :: l) x = ⟨x.key, e.is.join x.is⟩ :: l := by show (if e.key < x.key then _ else if e.key = x.key then _ else _) = _; rw [if_neg h1, if_pos h2]
        have e3 : insC (e :: l) x = if e.is.c + x.is.c ≤ 1073741824 then some (⟨x.key, e.is.join x.is⟩ :: l) else none := by show (if e.key < x.key then _ else if e.key = x.key then _ else _) = _; rw [if_neg h1, if_pos h2]
        rw [e1, e2, e3]
      · have e1 : look (e :: l) x.key = Roll.zero := by show (if e.key = x.key then _ else _) = _; rw [if_neg h2, hl]
        have e2 : ins (e :: l) x = x :: e :: l := by show (if e.key < x.key then _ else if e.key = x.key then _ else _) = _; rw [if_neg h1, if_neg h2]
        have e3 : insC (e :: l) x = some (x :: e :: l) := by show (if e.key < x.key then _ else if e.key = x.key then _ else _) = _; rw [if_neg h1, if_neg h2]
        rw [e1, e2, e3, if_pos (by simpa [Roll.zero] using hx)]

/-- All entries, come together. -/
def bag (l : List Ent) : List Ent := l.foldl ins []
def bagC (l : List Ent) : Option (List Ent) := l.foldlM insC []
/-- At each key no more is known than may be. -/
def Small (l : List Ent) : Prop := ∀ k, (look l k).c ≤ 1073741824
theorem foldl_ins {l m : List Ent} (hm : Rising m ∧ Goods m) (hl : Goods l) : Rising (l.foldl ins m) ∧ Goods (l.foldl ins m) ∧ ∀ k, look (l.foldl ins m) k = (look m k).join (look l k) := by
  induction l generalizing m with
  | nil => exact ⟨hm.1, hm.2, fun k => by simp [look, join_zero]⟩
  | cons x l ih =>
    have hc := hl.cons
    obtain ⟨a, b, c⟩ := ih ⟨ins_rising hm.1, ins_goods hm.2 hc.1⟩ hc.2
    refine ⟨a, b, fun k => ?_⟩
    simp only [List.foldl_cons]
    rw [c, look_ins hm.2.fines (.inr hc.1)]
    simp only [look]
    by_cases h : x.key = k
    · rw [if_pos h, if_pos h, join_assoc (look_fine hm.2.fines k) (.inr hc.1) (look_fine hc.2.fines k)]
    · rw [if_neg h, if_neg h]
theorem bag_rising {l : List Ent} (hl : Goods l) : Rising (bag l) := (foldl_ins (m := []) ⟨List.Pairwise.nil, fun _ h => by cases h⟩ hl).1
theorem bag_goods {l : List Ent} (hl : Goods l) : Goods (bag l) := (foldl_ins (m := []) ⟨List.Pairwise.nil, fun _ h => by cases h⟩ hl).2.1
theorem look_bag {l : List Ent} (hl : Goods l) (k : Int) : look (bag l) k = look l k := by
  have := (foldl_ins (m := []) ⟨List.Pairwise.nil, fun _ h => by cases h⟩ hl).2.2 k
  simp only [look] at this
  unfold bag; rw [this, zero_join (look_fine hl.fines k)]
theorem bag_perm {a b : List Ent} (h : a.Perm b) (ha : Goods a) : bag a = bag b := by
  have hb : Goods b := fun e he => ha e (h.mem_iff.2 he)
  refine look_ext (bag_rising ha) (bag_rising hb) (bag_goods ha) (bag_goods hb) fun k => ?_
  rw [look_bag ha, look_bag hb, look_perm h ha.fines]
theorem bag_self {l : List Ent} (hr : Rising l) (hl : Goods l) : bag l = l :=
  look_ext (bag_rising hl) hr (bag_goods hl) hl fun k => look_bag hl k
theorem look_le {a b : List Ent} (ha : Fines a) (hb : Fines b) (k : Int) : (look a k).c ≤ (look (a ++ b) k).c := by
  rw [look_append ha hb, join_c]; have := (look_fine hb k).pos; omega
theorem goods_append {a b : List Ent} : Goods (a ++ b) ↔ Goods a ∧ Goods b :=
  ⟨fun h => ⟨fun e he => h e (by simp [he]), fun e he => h e (by simp [he])⟩, fun h e he => by rcases List.mem_append.1 he with he | he; exact h.1 e he; exact h.2 e he⟩
theorem Checked.cons {x : Ent} {l : List Ent} (h : Checked (x :: l)) : (x.is.c ≠ 0 ∧ rollCheck x.is = 0) ∧ Checked l := ⟨h x (by simp), fun y hy => h y (by simp [hy])⟩
theorem Checked.le {l : List Ent} (h : Checked l) : ∀ e ∈ l, e.is.c ≤ 1073741824 := fun e he => (good_check (h e he).2 (h e he).1).2
open Classical in
theorem foldlM_insC {l m : List Ent} (hm : Rising m) (gm : Goods m) (hl : Checked l) (hs : Small m) :
    l.foldlM insC m = if Small (m ++ l) then some (l.foldl ins m) else none := by
  induction l generalizing m with
  | nil => rw [List.foldlM_nil, if_pos (by simpa using hs)]; rfl
  | cons x l ih =>
    have hc := hl.goods.cons
    have e1 : look (m ++ x :: l) = look ((ins m x) ++ l) := by
      funext k
      rw [look_append gm.fines hl.goods.fines, look_append (ins_goods gm hc.1).fines hc.2.fines, look_ins gm.fines (.inr hc.1)]
      simp only [look]
      by_cases h : x.key = k
      · rw [if_pos h, if_pos h, join_assoc (look_fine gm.fines k) (.inr hc.1) (look_fine hc.2.fines k)]
      · rw [if_neg h, if_neg h]
    have e2 : Small (m ++ x :: l) ↔ Small ((ins m x) ++ l) := by unfold Small; rw [e1]
    have hle : ∀ k, (look (ins m x) k).c ≤ (look (m ++ x :: l) k).c := fun k => by rw [e1]; exact look_le (ins_goods gm hc.1).fines hc.2.fines k
    have hlx := look_ins gm.fines (.inr hc.1 : x.is.Fine)
    rw [List.foldlM_cons, insC_eq hm (hl.le x (by simp))]
    by_cases h1 : (look m x.key).c + x.is.c ≤ 1073741824
    · rw [if_pos h1]
      have hs' : Small (ins m x) := fun k => by
        rw [hlx]
        split
        · rename_i h; subst h; rw [join_c]; exact h1
        · exact hs k
      show List.foldlM insC (ins m x) l = _
      rw [ih (ins_rising hm) (ins_goods gm hc.1) hl.cons.2 hs']
      by_cases h2 : Small (m ++ x :: l)
      · rw [if_pos (e2.1 h2), if_pos h2]; rfl
      · rw [if_neg (fun h => h2 (e2.2 h)), if_neg h2]
    · rw [if_neg h1, if_neg]
      · rfl
      · intro h
        have := hle x.key
        rw [hlx, if_pos rfl, join_c] at this
        have := h x.key
        omega
open Classical in
theorem bagC_eq {l : List Ent} (hl : Checked l) : bagC l = if Small l then some (bag l) else none := by
  have := foldlM_insC (m := []) List.Pairwise.nil (fun _ h => by cases h) hl (fun k => by simp [look, Roll.zero])
  simpa [bagC, bag] using this
theorem small_perm {a b : List Ent} (h : a.Perm b) (ha : Fines a) : Small a ↔ Small b := by
  unfold Small; constructor <;> intro hs k
  · rw [← look_perm h ha]; exact hs k
  · rw [look_perm h ha]; exact hs k
/-- In whatever order. -/
theorem bagC_perm {a b : List Ent} (h : a.Perm b) (ha : Checked a) : bagC a = bagC b := by
  have hb : Checked b := fun e he => ha e (h.mem_iff.2 he)
  rw [bagC_eq ha, bagC_eq hb, bag_perm h ha.goods]
  by_cases hs : Small a
  · rw [if_pos hs, if_pos ((small_perm h ha.goods.fines).1 hs)]
  · rw [if_neg hs, if_neg (fun h' => hs ((small_perm h ha.goods.fines).2 h'))]
/-- What came together may be. -/
theorem bag_checked {l : List Ent} (hl : Goods l) (hs : Small l) : Checked (bag l) := fun e he => by
  have hg := bag_goods hl e he
  refine ⟨by have := hg.1; omega, check_good hg ?_⟩
  rw [← look_rising (bag_rising hl) he, look_bag hl]; exact hs _
theorem ins_checked {l : List Ent} {x : Ent} (hr : Rising l) (hl : Checked l) (hx : x.is.Good) (hc : (look l x.key).c + x.is.c ≤ 1073741824) : Checked (ins l x) := fun e he => by
  have hg := ins_goods hl.goods hx e he
  refine ⟨by have := hg.1; omega, check_good hg ?_⟩
  rw [← look_rising (ins_rising hr) he, look_ins hl.goods.fines (.inr hx)]
  split
  · rename_i h; rw [← h, join_c]; exact hc
  · rename_i h
    by_cases hm : ∃ y ∈ l, y.key = e.key
    · obtain ⟨y, hy, hk⟩ := hm
      rw [← hk, look_rising hr hy]; exact hl.le y hy
    · rw [look_none fun y hy hk => hm ⟨y, hy, hk⟩]; decide
end Go.Proofs.Ytmpknhefkhjfpaa
