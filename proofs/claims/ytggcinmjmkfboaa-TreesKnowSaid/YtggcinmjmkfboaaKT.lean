/- Texts of mine that come as one: OpenRaw Grown Kmap KTree KUse KGet. -/
import Derived.Test.YtggcinmjmkfboaaMO
import Derived.Test.YtggcinmjmkfboaaPU
import Derived.Test.YtggcinmjmkfboaaSR
import Derived.Test.YtggcinmjmkfboaaKB
import Derived.Test.YtggcinmjmkfboaaOG
import Derived.Test.YtggcinmjmkfboaaAW
import Derived.Test.YtggcinmjmkfboaaNC
import Derived.Test.YtggcinmjmkfboaaGetW
/- Arguments that are raw things (winnowerkeep.Raw), one or many, read as data. -/
namespace Go.Proofs.Ytggcinmjmkfboaa
open Go.ChangeShapes Go.WideShapes Go.ChangeAt Go.RowKit Go.Deep

/-- Four numbers of 64 bits. -/
structure Rw where
  k : Int
  a : Int
  b : Int
  c : Int
def Rw.ok (r : Rw) : Prop := i64 r.k ∧ i64 r.a ∧ i64 r.b ∧ i64 r.c
def enRw (r : Rw) : List Value := [.int .i64 r.k, .int .i64 r.a, .int .i64 r.b, .int .i64 r.c]
abbrev RwsAt (w : World) (v : Value) (xs : List Rw) : Prop := SlAt 4 32 enRw w v xs
theorem Try.cellsRaw : Try.prog.cellsOf 54 = 4 := by kernel_rfl
theorem Try.bytesRaw : Try.prog.bytesOf 54 = 32 := by kernel_rfl

section
variable {H : Type} {enc : TypeId × Value → H} {w : World} {base : Nat} {sp : Nat → Bool} {held : Bool}

theorem list4 {α : Type} {cs : List α} {a b c d : α} (hl : cs.length = 4) (h0 : cs[0]? = some a) (h1 : cs[1]? = some b) (h2 : cs[2]? = some c) (h3 : cs[3]? = some d) : cs = [a, b, c, d] := by
  match cs, hl with
  | [x0, x1, x2, x3], _ => simp at h0 h1 h2 h3; simp [h0, h1, h2, h3]
set_option maxRecDepth 100000 in
theorem read_rw {fuel : Nat} {cs : List Value} {x : DataW H × List MemPlace} (h : DataW.trod enc Try.prog w base sp held fuel 54 cs = some x) : ∃ r : Rw, cs = enRw r ∧ r.ok := by
  obtain ⟨xs, n, _, _, hl, hn, hf⟩ := DataW.trod_struct Try.underlying54 h
  rw [Try.cellsRaw] at hl
  match xs, hn with
  | [x0, x1, x2, x3], _ =>
    obtain ⟨a, ha, ha'⟩ := read_int_at (hf 0 _ rfl)
    obtain ⟨b, hb, hb'⟩ := read_int_at (hf 1 _ rfl)
    obtain ⟨c, hc, hc'⟩ := read_int_at (hf 2 _ rfl)
    obtain ⟨d, hd, hd'⟩ := read_int_at (hf 3 _ rfl)
    exact ⟨⟨a, b, c, d⟩, list4 hl ha hb hc hd, ha', hb', hc', hd'⟩
theorem read_rws {fuel : Nat} {cs : List Value} {x : DataW H × List MemPlace} (h : DataW.trod enc Try.prog w base sp held fuel 32 cs = some x) (hw : ∀ m ∈ x.1.weights Try.prog 32, m ≤ reachBytes) :
    ∃ (v : Value) (xs : List Rw), cs = [v] ∧ RwsAt w v xs ∧ ∀ a ∈ xs, a.ok :=
  read_slice enRw Rw.ok Try.underlying32 Try.cellsRaw (by decide) Try.bytesRaw h hw fun _ _ _ h1 _ => read_rw h1
set_option maxRecDepth 100000 in
theorem open_raws' {r : Reach} {b0 : Nat} {v : Value} {d : DataW H} {p : List MemPlace} (hv : Value.okWide Try.prog w r b0 32 v) (h : DataW.Trod enc Try.prog w base sp held 32 v d p) (hw : ∀ m ∈ d.weights Try.prog 32, m ≤ reachBytes) :
    ∃ xs : List Rw, RwsAt w v xs ∧ ∀ a ∈ xs, a.ok := by
  obtain ⟨fuel, hf⟩ := h
  obtain ⟨v', xs, e, h1, h2⟩ := read_rws hf hw
  rw [slice_cell Try.underlying32 hv e]
  exact ⟨xs, h1, h2⟩
end
end Go.Proofs.Ytggcinmjmkfboaa

/- A tree that was grown by putting entries, one by one: plain. -/
namespace Go.Proofs.Ytggcinmjmkfboaa

theorem look_cnt {m : Nat} {k : Int} : ∀ {E : List Ent}, (∀ e ∈ E, e.is.c ≤ m) → (look E k).c ≤ (m : Int) * (E.length : Int)
  | [], _ => by simp [look, Roll.zero]
  | e :: E, h => by
    have ih := look_cnt (k := k) (E := E) fun x hx => h x (by simp [hx])
    have h1 := h e (by simp)
    have e1 : (m : Int) * (((e :: E).length : Nat) : Int) = (m : Int) * (E.length : Int) + m := by rw [List.length_cons]; push_cast; rw [Int.mul_add, Int.mul_one]
    rw [e1]
    unfold look
    split
    · rw [join_c]; omega
    · omega
/-- The tree t knows what the entries E tell, of which each may be, and is not greater than it need be. -/
structure Grown (E : List Ent) (t : Tr) : Prop where
  fault : treeFault t = 0
  ev : Eqv t.all E
  ok : ∀ e ∈ E, EntOk e
  wt : wtT t ≤ 3 + E.length
theorem Grown.goods {E : List Ent} {t : Tr} (h : Grown E t) : Goods E := h.ev.2.1
theorem Grown.look {E : List Ent} {t : Tr} (h : Grown E t) (k : Int) : look t.all k = Go.Proofs.Ytggcinmjmkfboaa.look E k := h.ev.2.2 k
theorem Grown.start : Grown [] startT := by
  obtain ⟨h1, h2, -, -, -, h6⟩ := made_new
  exact ⟨h1, h2, (fun e h => by cases h), h6⟩
theorem Grown.cons_ev {E : List Ent} {t : Tr} {e : Ent} (h : Grown E t) (he : EntOk e) : Eqv (e :: t.all) (e :: E) :=
  Eqv.append (a := [e]) (b := [e]) (Eqv.refl fun x hx => by rw [List.mem_singleton] at hx; subst hx; exact he.good) h.ev
/-- Few in number: all can come together. -/
theorem Grown.small {E : List Ent} {t : Tr} {e : Ent} (h : Grown E t) (he : EntOk e) (hs : Small (e :: E)) : Small (e :: t.all) := (h.cons_ev he).small.2 hs
theorem small_cnt {m : Nat} {E : List Ent} (h : ∀ e ∈ E, e.is.c ≤ m) (hl : m * E.length ≤ 1073741824) : Small E := fun k => by
  have := look_cnt (k := k) h
  have h2 : ((m * E.length : Nat) : Int) = (m : Int) * (E.length : Int) := by push_cast; rfl
  omega
theorem Grown.putE {E : List Ent} {t : Tr} {e : Ent} (h : Grown E t) (he : EntOk e) (hs : Small (e :: E)) : putE t e.key e.is = 0 := by
  unfold Go.Proofs.Ytggcinmjmkfboaa.putE
  obtain ⟨h1, h2, h3, h4⟩ := he
  have h5 : (Go.Proofs.Ytggcinmjmkfboaa.look t.all e.key).c + e.is.c ≤ 1073741824 := by
    have := hs e.key
    unfold Go.Proofs.Ytggcinmjmkfboaa.look at this
    rw [if_pos rfl, join_c] at this
    rw [h.look]; omega
  rw [if_neg (by simp [h.fault]), if_neg (by omega), if_neg (by simp [h2]), if_pos h5]
theorem Grown.put {E : List Ent} {t t2 : Tr} {e : Ent} {h2 : Nat} {l2 : List Int} (h : Grown E t) (he : EntOk e) (hn : E.length ≤ 2900) (hf : Full t2 h2 l2) (h3 : Eqv t2.all (e :: t.all)) (h4 : wtT t2 ≤ wtT t + 1) : treeFault t2 = 0 ∧ Grown (e :: E) t2 := by
  have hw := h.wt
  have hft := hf.fault (by omega)
  exact ⟨hft, hft, h3.trans (h.cons_ev he), fun x hx => by
    rcases List.mem_cons.1 hx with rfl | hx
    · exact he
    · exact h.ok x hx, by rw [List.length_cons]; omega⟩
/-- All that such a tree knows. -/
theorem Grown.knows {E : List Ent} {t : Tr} (h : Grown E t) (hs : Small E) : allT t = some (bag E) := by
  have hg := h.goods
  refine allT_of h.fault (h.ev.trans ⟨hg, bag_goods hg, fun k => (look_bag hg k).symm⟩) (bag_rising hg) fun e he => ?_
  have hlk : Go.Proofs.Ytggcinmjmkfboaa.look E e.key = e.is := by rw [← look_bag hg, look_rising (bag_rising hg) he]
  have hgd := bag_goods hg e he
  have hle := hs e.key
  rw [hlk] at hle
  exact ⟨by have := hgd.1; omega, check_good hgd hle⟩
theorem Grown.nodes {E : List Ent} {t : Tr} (h : Grown E t) : t.nodes.length + 1 ≤ 2 * ((3 + E.length) / 3) := by
  obtain ⟨l, hh, -, hf⟩ := valid_full (treeFault_ok h.fault).2
  obtain ⟨k, a1, a2, -⟩ := hf.bound
  have := h.wt
  omega
theorem Grown.get {E : List Ent} {t : Tr} (h : Grown E t) (hs : Small E) {k : Int} : (Go.Proofs.Ytggcinmjmkfboaa.look t.all k).c ≤ 1073741824 := by rw [h.look]; exact hs k
end Go.Proofs.Ytggcinmjmkfboaa

/- A map of rollups that a call makes. -/
namespace Go.Proofs.Ytggcinmjmkfboaa
open Go.RowKit Go.Maps

def rollD (r : Roll) : DataW Unit := .agg [.lit (.int .i64 r.c), .lit (.int .i64 r.s), .lit (.int .i64 r.mi), .lit (.int .i64 r.ma), .lit (.int .i64 r.t), .lit (.int .i64 r.l)]
theorem rollD_inj {a b : Roll} (h : rollD a = rollD b) : a = b := by
  cases a; cases b; simpa [rollD] using h
/-- How a rollup in a map reads. -/
def rollElem : Value → Option (DataW Unit × List MemPlace)
  | .agg cs => match cs.toList with
    | [.int .i64 a, .int .i64 b, .int .i64 c, .int .i64 d, .int .i64 e, .int .i64 f] => some (rollD ⟨a, b, c, d, e, f⟩, [])
    | _ => none
  | _ => none
theorem rollElem_v (r : Roll) : rollElem r.v = some (rollD r, []) := rfl
theorem rollElem_inv {v : Value} {z : DataW Unit × List MemPlace} (h : rollElem v = some z) : ∃ r : Roll, v = r.v ∧ z = (rollD r, []) := by
  unfold rollElem at h
  split at h
  · rename_i cs
    split at h
    · rename_i a b c d e f hcs
      refine ⟨⟨a, b, c, d, e, f⟩, ?_, (Option.some.inj h).symm⟩
      obtain ⟨l⟩ := cs
      have hcs : l = _ := hcs
      rw [hcs]
      first | done | rfl
    · cases h
  · cases h
/-- The map that has, at each key of the entries, what they come to there. -/
def mapE : List Ent → DataW Unit
  | [] => .map []
  | e :: E => (mapE E).put (.int .i64 e.key) (rollD (look (e :: E) e.key))
theorem mapE_isMap : ∀ E, IsMap (mapE E)
  | [] => isMap_empty
  | _ :: E => (mapE_isMap E).put _ _
theorem mapE_tidy : ∀ E, Tidy (mapE E)
  | [] => tidy_empty
  | _ :: E => (mapE_tidy E).put (isKey_int _) _
theorem mapE_at (k : Int) : ∀ E, (mapE E).atKey (.int .i64 k) (rollD Roll.zero) = rollD (look E k)
  | [] => by rw [mapE, atKey_of_not_has (by rfl)]; rfl
  | e :: E => by
    rw [mapE]
    by_cases h : k = e.key
    · subst h; rw [atKey_put_same (mapE_isMap E) (isKey_int e.key)]
    · rw [atKey_put_other (by simp [h]), mapE_at k E]
      have : look (e :: E) k = look E k := by show (if e.key = k then _ else _) = _; rw [if_neg (fun h' => h h'.symm)]
      rw [this]
theorem mapE_has (k : Int) : ∀ E, has (mapE E) (.int .i64 k) = E.any (fun e => decide (e.key = k))
  | [] => by rfl
  | e :: E => by
    rw [mapE]
    by_cases h : k = e.key
    · subst h; rw [has_put_same (mapE_isMap E) (isKey_int e.key)]; simp
    · rw [has_put_other (by simp [h]), mapE_has k E, List.any_cons, show decide (e.key = k) = false from decide_eq_false (fun h' => h h'.symm), Bool.false_or]
theorem any_look {E : List Ent} (hg : Goods E) (k : Int) : (E.any fun e => decide (e.key = k)) = true ↔ look E k ≠ Roll.zero := by
  constructor
  · intro h
    obtain ⟨e, he, hk⟩ := List.any_eq_true.1 h
    have := (look_good hg (k := k) ⟨e, he, of_decide_eq_true hk⟩).1
    intro h0; rw [h0] at this; exact absurd this (by decide)
  · intro h
    refine List.any_eq_true.2 ?_
    by_cases h2 : ∃ e ∈ E, e.key = k
    · obtain ⟨e, he, hk⟩ := h2; exact ⟨e, he, decide_eq_true hk⟩
    · exact absurd (look_none fun e he hk => h2 ⟨e, he, hk⟩) h
theorem ins_len {x : Ent} : ∀ {l : List Ent}, Rising l → (ins l x).length = if l.any (fun e => decide (e.key = x.key)) then l.length else l.length + 1
  | [], _ => rfl
  | e :: l, h => by
    have hp := List.pairwise_cons.1 h
    have ih := ins_len (x := x) hp.2
    show (if e.key < x.key then e :: ins l x else if e.key = x.key then (⟨x.key, e.is.join x.is⟩ : Ent) :: l else x :: e :: l).length = _
    by_cases h1 : e.key < x.key
    · rw [if_pos h1, List.length_cons, ih, List.any_cons, show decide (e.key = x.key) = false by simp; omega, Bool.false_or]
      split <;> simp
    · rw [if_neg h1]
      by_cases h2 : e.key = x.key
      · rw [if_pos h2]; simp [h2]
      · rw [if_neg h2, List.any_cons, show decide (e.key = x.key) = false by simp [h2], Bool.false_or]
        have : (l.any fun e => decide (e.key = x.key)) = false := List.any_eq_false.2 fun y hy => by have := hp.1 y hy; simp; omega
        rw [this]; simp
theorem bag_cons {e : Ent} {E : List Ent} (hg : Goods (e :: E)) : bag (e :: E) = ins (bag E) e := by
  rw [bag_perm (show (e :: E).Perm (E ++ [e]) from List.perm_append_comm (l₁ := [e]) (l₂ := E)) hg]
  unfold bag; rw [List.foldl_append]; rfl
/-- As many keys as the entries come to. -/
theorem mapE_size : ∀ {E : List Ent}, Goods E → size (mapE E) = (bag E).length
  | [], _ => rfl
  | e :: E, hg => by
    have hc := hg.cons
    have e1 : has (mapE E) (.int .i64 e.key) = (bag E).any (fun y => decide (y.key = e.key)) := by
      rw [mapE_has, Bool.eq_iff_iff, any_look hc.2, any_look (bag_goods hc.2), look_bag hc.2]
    rw [bag_cons hg, ins_len (bag_rising hc.2), ← e1, mapE, size_put (mapE_tidy E), mapE_size hc.2]
theorem Try.zeroRoll (w : World) : (zeroValue 38).run Try.prog w = .ok Roll.zero.v w := by kernel_rfl
/-- The block mb is the map of what the entries E come to. -/
def MapAt (w : World) (mb : Nat) (E : List Ent) : Prop := w.ownsMap (H := Unit) Try.prog 3 rollElem mb E.length (mapE E)
theorem MapAt.look {w : World} {mb : Nat} {E : List Ent} (h : MapAt w mb E) {n : Int} (hn : i64 n) : (Instr.lookup 34 (.map (some mb)) (.int .i64 n) false).run Try.prog w = .ok (Go.Proofs.Ytggcinmjmkfboaa.look E n).v w := by
  obtain ⟨v, ps, hrun, hv⟩ := World.ownsMap.lookup h Try.keyedInt Try.underlying34 (Try.zeroRoll w) (rollElem_v Roll.zero) (keyOf_int_mk Try.underlying3 (wf_i64 hn))
  rw [mapE_at] at hv
  obtain ⟨r, rfl, e⟩ := rollElem_inv hv
  rw [hrun, rollD_inj (Prod.mk.inj e).1]
theorem MapAt.len {w : World} {mb : Nat} {E : List Ent} (h : MapAt w mb E) (hg : Goods E) (ty : TypeId) : (Builtin.len_ #[34] ty #[.map (some mb)]).run Try.prog w = .ok (.int .i64 (bag E).length) w := by
  rw [World.ownsMap.len h Try.underlying34 ty, mapE_size hg]
theorem MapAt.lt {w : World} {mb : Nat} {E : List Ent} (h : MapAt w mb E) : mb < w.heap.size := World.ownsMap.lt h
theorem MapAt.block {w w' : World} {mb : Nat} {E : List Ent} (h : MapAt w mb E) (hb : w'.heap[mb]? = w.heap[mb]?) : MapAt w' mb E := by
  obtain ⟨es, clock, h1, F, hs, hD⟩ := h
  exact ⟨es, clock, hb.trans h1, F, hs, hD⟩
theorem MapAt.made (w : World) : MapAt (w.alloc (.map #[] 0)) w.heap.size [] := World.ownsMap_made (H := Unit) w Try.prog 3 rollElem
end Go.Proofs.Ytggcinmjmkfboaa

/- winnowerkeep.Tree at any raw things: a tree that was grown, and the map of what it knows. -/
namespace Go.Proofs.Ytggcinmjmkfboaa
open Go.RowKit Go.Maps

theorem rw_cells {w wr : World} {b off k : Nat} {xs : List Rw} (hb : Below w.heap.size w wr) (hbb : b < w.heap.size)
    (h : ∀ i x, xs[i]? = some x → ∀ j u, (enRw x)[j]? = some u → w.cell? ⟨b, off + i * 4 + j, none⟩ = some u) (hk : k < xs.length) :
    wr.cell? ⟨b, off + k * 4, none⟩ = some (.int .i64 xs[k].k) ∧ wr.cell? ⟨b, off + k * 4 + 1, none⟩ = some (.int .i64 xs[k].a) ∧ wr.cell? ⟨b, off + k * 4 + 2, none⟩ = some (.int .i64 xs[k].b) ∧ wr.cell? ⟨b, off + k * 4 + 3, none⟩ = some (.int .i64 xs[k].c) := by
  have g : ∀ j u, (enRw xs[k])[j]? = some u → wr.cell? ⟨b, off + k * 4 + j, none⟩ = some u := fun j u hu =>
    (hb.cell (p := ⟨b, _, none⟩) hbb).trans (h k xs[k] (by simp [hk]) j u hu)
  exact ⟨by simpa using g 0 _ rfl, g 1 _ rfl, g 2 _ rfl, g 3 _ rfl⟩
theorem idx_rws {ab aoff n cap j : Nat} {i : Int} (h : i = j) (hj : j < n) (w : World) : (Instr.indexAt 32 (.slice (some ⟨ab, aoff, none⟩) n cap) (.int .i64 i)).run Try.prog w = .ok (.pointer (some ⟨ab, aoff + j * 4, none⟩)) w := by
  subst h
  go_simp
/-- Entries as Tree puts them. -/
def KE (many : Int) (E : List Ent) : Prop := ∀ e ∈ E, 1 ≤ e.is.c ∧ e.is.c ≤ (4 : Nat) ∧ 0 ≤ e.key ∧ e.key < many
theorem KE.small {many : Int} {E : List Ent} (h : KE many E) (hl : E.length ≤ 1000) : Small E := small_cnt (fun e he => (h e he).2.1) (by omega)
structure KtAt (w : World) (tb mb : Nat) (many : Int) (k : Nat) (s : Option Addr) (n c : Nat) (t : Tr) (E : List Ent) (wr : World) : Prop where
  below : Below w.heap.size w wr
  size : w.heap.size < tb
  lt : tb < mb
  t0 : wr.cell? ⟨tb, 0, none⟩ = some (.slice s n c)
  t1 : wr.cell? ⟨tb, 1, none⟩ = some (.int .i64 t.root)
  tf : ∀ o, wr.frozen? ⟨tb, o, none⟩ = false
  z0 : wr.cell? ⟨w.heap.size, 0, none⟩ = some (.slice none 0 0)
  z1 : wr.cell? ⟨w.heap.size, 1, none⟩ = some (.int .i64 0)
  zf : ∀ o, wr.frozen? ⟨w.heap.size, o, none⟩ = false
  tree : ∀ w'', wr.heap.size ≤ w''.heap.size → (∀ b, w.heap.size < b → b ≠ tb → b ≠ mb → b < wr.heap.size → w''.heap[b]? = wr.heap[b]?) → TreeAt w'' (.agg #[.slice s n c, .int .i64 t.root]) t
  grown : Grown E t
  ke : KE many E
  len : E.length = k
  map : MapAt wr mb E
theorem KtAt.later {w : World} {tb mb k : Nat} {many : Int} {s : Option Addr} {n c : Nat} {t : Tr} {E : List Ent} {wr w' : World} (h : KtAt w tb mb many k s n c t E wr) (hb : Below wr.heap.size wr w') : KtAt w tb mb many k s n c t E w' := by
  have h1 := h.size
  have h2 := h.lt
  have h3 := h.map.lt
  have k0 := keep1 hb (B := w.heap.size) (by omega)
  have k1 := keep1 hb (B := tb) (by omega)
  exact ⟨Below.trans' h.below hb h.below.size, h1, h2, (k1.2.1 _).trans h.t0, (k1.2.1 _).trans h.t1, fun o => (k1.2.2 o).trans (h.tf o), (k0.2.1 _).trans h.z0, (k0.2.1 _).trans h.z1, fun o => (k0.2.2 o).trans (h.zf o), fun w'' hs hk => h.tree w'' (Nat.le_trans hb.size hs) fun b b1 b2 b3 b4 => (hk b b1 b2 b3 (Nat.lt_of_lt_of_le b4 hb.size)).trans (hb.block b b4), h.grown, h.ke, h.len, h.map.block (hb.block _ h3)⟩
theorem KtAt.at {w : World} {tb mb k : Nat} {many : Int} {s : Option Addr} {n c : Nat} {t : Tr} {E : List Ent} {wr : World} (h : KtAt w tb mb many k s n c t E wr) : TreeAt wr (.agg #[.slice s n c, .int .i64 t.root]) t := h.tree _ (Nat.le_refl _) fun _ _ _ _ _ => rfl
/-- What Tree leaves. -/
def KtPost (many : Int) (w : World) (x : Ending) (w' : World) : Prop := Below w.heap.size w w' ∧ ∃ s n c t mb E, x = .returned (.tuple #[.agg #[.slice s n c, .int .i64 t.root], .map (some mb)]) ∧ w.heap.size < mb ∧ mb < w'.heap.size ∧
  (∀ w'', Keep (w.heap.size + 1) w' w'' → TreeAt w'' (.agg #[.slice s n c, .int .i64 t.root]) t) ∧ Grown E t ∧ KE many E ∧ E.length ≤ 150 ∧ MapAt w' mb E
/-- One entry more. -/
theorem kt_step {w : World} {tb mb k : Nat} {many : Int} {s so : Option Addr} {n c n6 c6 : Nat} {rt E2 : Int} {t : Tr} {E : List Ent} {W w6 W7 : World} {key : Int} {r : Roll} (h : KtAt w tb mb many k s n c t E W) (hk : k < 150) (hr1 : 1 ≤ r.c) (hr4 : r.c ≤ 4) (hc : rollCheck r = 0) (hk0 : 0 ≤ key) (hk1 : key < many) (hm : many ≤ 1000000)
    (hf : PutForm W.heap.size t key r w6 so n6 c6 rt E2) (_hb6 : Below W.heap.size W w6) (_hb7 : Below w6.heap.size w6 W7) :
    E2 = 0 ∧ ∃ t2, rt = t2.root ∧ Grown (⟨key, r⟩ :: E) t2 ∧ KE many (⟨key, r⟩ :: E) ∧ (∀ w'', Keep W.heap.size w6 w'' → TreeAt w'' (.agg #[.slice so n6 c6, .int .i64 rt]) t2) ∧ rollMerge (look E key) r = (look (⟨key, r⟩ :: E) key, 0) ∧ rollCheck (look E key) = 0 := by
  have he : EntOk ⟨key, r⟩ := ⟨by show r.c ≠ 0; omega, hc, hk0, by show key < _; omega⟩
  have hke : KE many ((⟨key, r⟩ : Ent) :: E) := fun x hx => by
    rcases List.mem_cons.1 hx with rfl | hx
    · exact ⟨hr1, by show r.c ≤ _; omega, hk0, hk1⟩
    · exact h.ke x hx
  have hs : Small ((⟨key, r⟩ : Ent) :: E) := hke.small (by rw [List.length_cons, h.len]; omega)
  have hsE : Small E := h.ke.small (by rw [h.len]; omega)
  have hp := h.grown.putE he hs
  have hlen := h.len
  have hfn := look_fine h.grown.goods.fines key
  have hlc : rollCheck (look E key) = 0 := by
    rcases hfn with hz | hz
    · rw [hz]; decide
    · exact check_good hz (hsE key)
  have hlk : look ((⟨key, r⟩ : Ent) :: E) key = r.join (look E key) := by show (if key = key then _ else _) = _; rw [if_pos rfl]
  have hle := hs key
  rw [hlk, join_c] at hle
  have hmg : rollMerge (look E key) r = (look (⟨key, r⟩ :: E) key, 0) := by
    rw [hlk, (merge_ok hlc hc (by omega)).1, join_comm hfn (.inr he.good)]
  rcases hf with ⟨p1, -⟩ | ⟨-, t2, h2, l2, p2, p3, p4, ⟨p5, -, rfl, p6⟩ | ⟨-, p6⟩⟩
  · exact absurd hp p1
  · obtain ⟨-, g⟩ := h.grown.put he (by omega) p2 p3 p4
    exact ⟨p5, t2, rfl, g, hke, p6, hmg, hlc⟩
  · exact absurd ((h.grown.put he (by omega) p2 p3 p4).1) p6
theorem MapAt.put {w1 : World} {mb : Nat} {E : List Ent} {e : Ent} (h : w1.ownsMap (H := Unit) Try.prog 3 rollElem mb (E.length + 1) ((mapE E).put (.int .i64 e.key) (rollD (Go.Proofs.Ytggcinmjmkfboaa.look (e :: E) e.key)))) : MapAt w1 mb (e :: E) := h
set_option maxRecDepth 100000 in
set_option maxHeartbeats 4000000 in
theorem kTree_any {v : Value} {xs : List Rw} {many : Int} {w : World} (h : RwsAt w v xs) (hx : ∀ a ∈ xs, a.ok) (hm : 1 ≤ many ∧ many ≤ 1000000) : Calls Try.prog 9 #[v, .int .i64 many] w (KtPost many w) := by
  obtain ⟨ao, cap, rfl, a1, a2, a3, a4, a5⟩ := h
  obtain ⟨W0, hW0⟩ : ∃ W0, W0 = w.alloc (.cells #[.slice none 0 0, .int .i64 0] 25) := ⟨_, rfl⟩
  have hb0 : Below w.heap.size w W0 := by rw [hW0]; exact (by repeat (first | with_reducible exact Below.refl _ _ | with_reducible assumption | with_reducible refine below_dn ?_ _ | with_reducible refine Below.drew ?_ | with_reducible refine Below.alloc ?_ (by first | omega | (simp; done) | (simp; omega) | (simp [drew_size]; done) | (simp [drew_size]; omega)) _ | with_reducible refine Below.setCell ?_ (by first | omega | (simp; done) | (simp; omega) | (simp [drew_size]; done) | (simp [drew_size]; omega)) _))
  have hz0 : W0.heap.size = w.heap.size + 1 := by rw [hW0]; simp
  have k0 : W0.heap[w.heap.size]? = some (.cells #[.slice none 0 0, .int .i64 0] 25) := by rw [hW0]; exact heap_new _ _ rfl
  have HN := Lib.hid (treeNew_made W0)
  have hmm := @run_makeMap Try.prog
  go_enter Try.func9, Try.ntmps9
  go_upto_region 1 with (fail)
  rw [← hW0]
  clear hW0
  go_upto_region 2 with (go_at_call 14; (with_reducible refine HN.out.mono ?_); rintro e w1 ⟨g, rfl, hg1, hg2, hg, hb1⟩)
  obtain ⟨W1, hW1⟩ : ∃ W1, W1 = w1.alloc (.cells #[.slice (some ⟨g, 0, none⟩) 1 1, .int .i64 0] 25) := ⟨_, rfl⟩
  have hb1' : Below w1.heap.size w1 W1 := by rw [hW1]; exact (by repeat (first | with_reducible exact Below.refl _ _ | with_reducible assumption | with_reducible refine below_dn ?_ _ | with_reducible refine Below.drew ?_ | with_reducible refine Below.alloc ?_ (by first | omega | (simp; done) | (simp; omega) | (simp [drew_size]; done) | (simp [drew_size]; omega)) _ | with_reducible refine Below.setCell ?_ (by first | omega | (simp; done) | (simp; omega) | (simp [drew_size]; done) | (simp [drew_size]; omega)) _))
  have k1 : W1.heap[w1.heap.size]? = some (.cells #[.slice (some ⟨g, 0, none⟩) 1 1, .int .i64 0] 25) := by rw [hW1]; exact heap_new _ _ rfl
  have hs1 := hb1.size
  have hz1 : W1.heap.size = w1.heap.size + 1 := by rw [hW1]; simp
  have k01 := (hb1'.block w.heap.size (by omega)).trans ((hb1.block w.heap.size (by omega)).trans k0)
  rw [← hW1]
  have HZ1 := Lib.hid hz1
  clear hW1 hz1
  go_upto_region 3 with (fail)
  have hz1 := HZ1.out
  obtain ⟨W2, hW2⟩ : ∃ W2, W2 = W1.alloc (.map #[] 0) := ⟨_, rfl⟩
  have hb2 : Below W1.heap.size W1 W2 := by rw [hW2]; exact (by repeat (first | with_reducible exact Below.refl _ _ | with_reducible assumption | with_reducible refine below_dn ?_ _ | with_reducible refine Below.drew ?_ | with_reducible refine Below.alloc ?_ (by first | omega | (simp; done) | (simp; omega) | (simp [drew_size]; done) | (simp [drew_size]; omega)) _ | with_reducible refine Below.setCell ?_ (by first | omega | (simp; done) | (simp; omega) | (simp [drew_size]; done) | (simp [drew_size]; omega)) _))
  have hz2 : W2.heap.size = W1.heap.size + 1 := by rw [hW2]; simp
  have hmap : MapAt W2 W1.heap.size [] := by rw [hW2]; exact MapAt.made _
  have k02 := (hb2.block w.heap.size (by omega)).trans k01
  have k12 := (hb2.block w1.heap.size (by omega)).trans k1
  have HI := Lib.hid (show KtAt w w1.heap.size W1.heap.size many 0 (some ⟨g, 0, none⟩) 1 1 newT [] W2 from
    ⟨Below.trans' (Below.trans' (Below.trans' hb0 hb1 hb0.size) hb1' (by omega)) hb2 (by omega), by omega, by omega, by simp [World.cell?, k12], by show W2.cell? ⟨w1.heap.size, 1, none⟩ = some (Value.int .i64 0); simp [World.cell?, k12], fun o => by simp [World.frozen?, k12], by simp [World.cell?, k02], by simp [World.cell?, k02], fun o => by simp [World.frozen?, k02],
      fun w'' hs hk => ⟨_, rfl, newNodes ((hk g (by omega) (by omega) (by omega) (by omega)).trans ((hb2.block g (by omega)).trans ((hb1'.block g hg2).trans hg)))⟩, Grown.start, (fun e he => by cases he), rfl, hmap⟩)
  rw [← hW2]
  obtain ⟨tb, htb⟩ : ∃ tb, w1.heap.size = tb := ⟨_, rfl⟩
  obtain ⟨mb, hmb⟩ : ∃ mb, W1.heap.size = mb := ⟨_, rfl⟩
  rw [hmb] at HI ⊢
  rw [htb] at HI ⊢
  clear hW2 k1 hs1 hz1 k01 k0 hb1 hb1' hg hg1 hg2 hb0 htb hmb hb2 hz2 hmap k02 k12 hmm
  go_wp2_with fail
  go_loopg [8] (min xs.length 150) (fun g i wr => ∃ k : Nat, k ≤ min xs.length 150 ∧ g = min xs.length 150 - k ∧ i = .int .i64 k ∧ Hid (∃ s n c t E, KtAt w tb mb many k s n c t E wr))
  case atStart => exact ⟨0, Nat.zero_le _, rfl, rfl, Lib.hid ⟨_, _, _, _, _, HI.out⟩⟩
  case round =>
    clear HI
    obtain ⟨k, hk, rfl, rfl, HR⟩ := hrel
    obtain ⟨s, n, c, t, E, hA⟩ := HR.out
    clear HR
    by_cases hlt : k < xs.length ∧ k < 150
    · obtain ⟨hlt1, hlt2⟩ := hlt
      obtain ⟨ab, aoff, rfl, abb, ac⟩ := a5 (by omega)
      obtain ⟨c0, -, -, -⟩ := rw_cells hA.below abb ac hlt1
      have HRC := Lib.hid fun W (hb : Below w.heap.size w W) => rw_cells hb abb ac hlt1
      have hxo := hx xs[k] (List.getElem_mem hlt1)
      obtain ⟨x, hxk⟩ : ∃ x, xs[k] = x := ⟨_, rfl⟩
      rw [hxk] at c0 HRC hxo
      obtain ⟨P, hP⟩ : ∃ P, picked x.k many = P := ⟨_, rfl⟩
      have hPr := picked_range (n := x.k) (m := many) hm.1
      have HPK := Lib.hid (picked_any2 x.k many wr hxo.1.1 hxo.1.2 hm.1 (by omega))
      rw [hP] at hPr HPK
      have HRU := Lib.hid fun W => rollup_lit (k := x.k) (w := W) hxo.2.1 hxo.2.2.1 hxo.2.2.2
      have HA := Lib.hid hA
      have HPr := Lib.hid hPr
      have hix := fun w' => idx_rws (ab := ab) (aoff := aoff) (n := xs.length) (cap := cap) (show (k : Int) = ((k : Nat) : Int) by rfl) hlt1 w'
      clear hA hxo hP hxk ac a5 hPr
      go_upto_region 7 with (go_at_call 8; (with_reducible refine HPK.out.mono ?_); rintro e w2 ⟨rfl, hb2⟩)
      have HA2 := Lib.hid (HA.out.later hb2)
      clear hb2 c0 HPK
      obtain ⟨c0, c1, c2, c3⟩ := HRC.out _ HA2.out.below
      go_upto_region 8 with (go_at_call 20; (with_reducible refine (HRU.out _).mono ?_); rintro e w3 ⟨⟨r, rfl, hr1, hr2, hr3⟩, hb3⟩)
      obtain ⟨W3, hW3⟩ : ∃ W3, W3 = w3.alloc (.cells #[.int .i64 r.c, .int .i64 r.s, .int .i64 r.mi, .int .i64 r.ma, .int .i64 r.t, .int .i64 r.l] 38) := ⟨_, rfl⟩
      have hb3' : Below w3.heap.size w3 W3 := by rw [hW3]; exact (by repeat (first | with_reducible exact Below.refl _ _ | with_reducible assumption | with_reducible refine below_dn ?_ _ | with_reducible refine Below.drew ?_ | with_reducible refine Below.alloc ?_ (by first | omega | (simp; done) | (simp; omega) | (simp [drew_size]; done) | (simp [drew_size]; omega)) _ | with_reducible refine Below.setCell ?_ (by first | omega | (simp; done) | (simp; omega) | (simp [drew_size]; done) | (simp [drew_size]; omega)) _))
      have hz3 : W3.heap.size = w3.heap.size + 1 := by rw [hW3]; simp
      have k3 : BoxAt W3 w3.heap.size r := by rw [hW3]; exact BoxAt.new _ _
      have HA3 := Lib.hid (HA2.out.later (Below.trans' hb3 hb3' hb3.size))
      have hlq : mb < w3.heap.size := Nat.lt_of_lt_of_le HA2.out.map.lt hb3.size
      have HRF := Lib.hid (And.intro hr1 (And.intro hr2 hr3))
      rw [← hW3]
      obtain ⟨qb, hqb⟩ : ∃ qb, w3.heap.size = qb := ⟨_, rfl⟩
      rw [hqb] at k3 hz3 hlq ⊢
      have KQ := Lib.hid k3
      clear hW3 hb3 hb3' c0 c1 c2 c3 hr1 hr2 hr3 hqb HRC HRU hix
      have HPUT := Lib.hid (treePut_form (key := P) (r := r) HA3.out.at (fun h0 => by
        have he : EntOk ⟨P, r⟩ := ⟨by have := HRF.out.2.1; show r.c ≠ 0; omega, HRF.out.1, HPr.out.1, by have := HPr.out.2; show P < _; omega⟩
        refine HA3.out.grown.small he (KE.small (many := many) ?_ (by rw [List.length_cons, HA3.out.len]; omega))
        intro y hy
        rcases List.mem_cons.1 hy with rfl | hy
        · exact ⟨HRF.out.2.1, by have := HRF.out.2.2; show r.c ≤ _; omega, HPr.out.1, HPr.out.2⟩
        · exact HA3.out.ke y hy))
      obtain ⟨q0, q1, q2, q3, q4, q5⟩ := k3.cells
      have x0 := HA3.out.t0
      have x1 := HA3.out.t1
      clear k3
      go_upto_region 9 with (go_at_call 15; (with_reducible refine HPUT.out.mono ?_); rintro e w4 ⟨hb4, so, n4, c4, rt, E2, rfl, hpf⟩)
      obtain ⟨W4, hW4⟩ : ∃ W4, W4 = w4.alloc (.cells #[.slice so n4 c4, .int .i64 rt] 25) := ⟨_, rfl⟩
      have hb4' : Below w4.heap.size w4 W4 := by rw [hW4]; exact (by repeat (first | with_reducible exact Below.refl _ _ | with_reducible assumption | with_reducible refine below_dn ?_ _ | with_reducible refine Below.drew ?_ | with_reducible refine Below.alloc ?_ (by first | omega | (simp; done) | (simp; omega) | (simp [drew_size]; done) | (simp [drew_size]; omega)) _ | with_reducible refine Below.setCell ?_ (by first | omega | (simp; done) | (simp; omega) | (simp [drew_size]; done) | (simp [drew_size]; omega)) _))
      have k4 : W4.heap[w4.heap.size]? = some (.cells #[.slice so n4 c4, .int .i64 rt] 25) := by rw [hW4]; exact heap_new _ _ rfl
      obtain ⟨rfl, t2, rfl, hg2, hke2, hkp, hmg, hlc⟩ := kt_step HA3.out hlt2 HRF.out.2.1 HRF.out.2.2 HRF.out.1 HPr.out.1 HPr.out.2 hm.2 hpf hb4 hb4'
      have HS := Lib.hid (And.intro hg2 (And.intro hke2 hkp))
      have HM := Lib.hid fun W => merge_any (look E P) r W
      rw [hmg] at HM
      have HA4 := Lib.hid (HA3.out.later (Below.trans' hb4 hb4' hb4.size))
      have HK4 := Lib.hid (KQ.out.later (Below.trans' hb4 hb4' hb4.size))
      have HB4 := Lib.hid (And.intro hb4 hb4')
      rw [← hW4]
      have hs4 := hb4.size
      have hz4 : W4.heap.size = w4.heap.size + 1 := by rw [hW4]; simp
      clear hW4 hb4 hb4' hpf hg2 hke2 hkp hmg hlc x0 x1 q0 q1 q2 q3 q4 q5 HPUT
      obtain ⟨u0, u1⟩ : W4.cell? ⟨w4.heap.size, 0, none⟩ = some (.slice so n4 c4) ∧ W4.cell? ⟨w4.heap.size, 1, none⟩ = some (.int .i64 t2.root) := by simp [World.cell?, k4]
      have x0 := HA4.out.t0
      have x1 := HA4.out.t1
      have xf := HA4.out.tf
      clear k4
      go_upto_region 11 with (fail)
      obtain ⟨W5, hW5⟩ : ∃ W5, W5 = (W4.setCell ⟨tb, 0, none⟩ (.slice so n4 c4)).setCell ⟨tb, 1, none⟩ (.int .i64 t2.root) := ⟨_, rfl⟩
      have hob : ∀ b, b ≠ tb → W5.heap[b]? = W4.heap[b]? := fun b hb => by
        rw [hW5]; exact (heap_setCell_other _ ⟨tb, _, none⟩ b _ hb).trans (heap_setCell_other _ ⟨tb, _, none⟩ b _ hb)
      have hsz5 : W5.heap.size = W4.heap.size := by rw [hW5]; simp only [heap_setCell_size]
      have hwtb := HA4.out.size
      have htm := HA4.out.lt
      have hmp4 := HA4.out.map.lt
      have hb5 : Below w.heap.size w W5 := by
        rw [hW5]; exact (HA4.out.below.setCell (by show w.heap.size ≤ tb; omega) _).setCell (by show w.heap.size ≤ tb; omega) _
      have H5 := Lib.hid (show Below w.heap.size w W5 ∧ W5.cell? ⟨tb, 0, none⟩ = some (.slice so n4 c4) ∧ W5.cell? ⟨tb, 1, none⟩ = some (.int .i64 t2.root) ∧ (∀ o, W5.frozen? ⟨tb, o, none⟩ = false) ∧ (∀ b, b ≠ tb → W5.heap[b]? = W4.heap[b]?) from
        ⟨hb5, by rw [hW5]; exact cell_setOff (by decide) (cell_setSame x0), by rw [hW5]; exact cell_setSame (cell_setOff (by decide) x1), fun o => by rw [hW5]; simp [xf], hob⟩)
      have HM5 := Lib.hid (HA4.out.map.block (hob mb (by omega)))
      have k5 : BoxAt W5 qb r := ⟨(hob qb (by omega)).trans HK4.out.box⟩
      rw [← hW5]
      clear hW5 x0 x1 xf u0 u1 hb5 hob
      obtain ⟨q0, q1, q2, q3, q4, q5⟩ := k5.cells
      clear k5
      have hPi : i64 P := by have := HPr.out; unfold i64; omega
      have hlook0 := HM5.out.look hPi
      have hkey := keyOf_int_mk (k := 3) (P := Try.prog) Try.underlying3 (wf_i64 hPi)
      obtain ⟨J, hJ⟩ : ∃ J, look E P = J := ⟨_, rfl⟩
      obtain ⟨M, hMM⟩ : ∃ M, look (⟨P, r⟩ :: E) P = M := ⟨_, rfl⟩
      have hlook : (Instr.lookup 34 (.map (some mb)) (.int .i64 P) false).run Try.prog W5 = .ok (.agg #[.int .i64 J.c, .int .i64 J.s, .int .i64 J.mi, .int .i64 J.ma, .int .i64 J.t, .int .i64 J.l]) W5 := by rw [hlook0, hJ]
      clear hlook0
      rw [hJ, hMM] at HM
      have HMM := Lib.hid hMM
      have HEL := Lib.hid HA4.out.len
      have hmp5 : mb < W5.heap.size := by omega
      clear hJ hMM hPi
      go_wp2_with (first
        | (go_at_call 21; (with_reducible refine (HM.out _).mono ?_); rintro e w6 ⟨rfl, hb6⟩; have HMP := Lib.hid (HM5.out.block (hb6.block mb hmp5)))
        | (at_mapUpdate; refine wpList_mapUpdate_own _ rfl _ _ _ 34 rfl 3 38 Try.keyedInt Try.underlying34 rollElem mb E.length (mapE E) rfl HMP.out (by rw [HEL.out]; unfold maxLen; omega) _ _ (.int .i64 P) rfl rfl hkey (rollD M) [] (rollElem_v _) ?_; intro w7 hown hgrow))
      have hgb : ∀ b, b ≠ mb → b < W5.heap.size → w7.heap[b]? = W5.heap[b]? := fun b h1 h2 => (hgrow.block b (Nat.lt_of_lt_of_le h2 hb6.size) (fun e => h1 (Option.some.inj e.symm).symm)).trans (hb6.block b h2)
      have hs7 : W5.heap.size ≤ w7.heap.size := Nat.le_trans hb6.size hgrow.size
      have hb7 : Below w.heap.size w w7 := Below.grown (Below.trans' H5.out.1 hb6 H5.out.1.size) hgrow (Nat.le_trans H5.out.1.size hb6.size) (fun j hj => by cases hj; omega)
      rw [← HMM.out] at hown
      have HW7 := Lib.hid (And.intro hgb (And.intro hb7 (MapAt.put (e := ⟨P, r⟩) hown)))
      clear hgb hb7 hown hgrow hb6 hlook hkey q0 q1 q2 q3 q4 q5
      go_roundg (min xs.length 150 - (k + 1))
      case measure => omega
      case rel =>
        refine ⟨k + 1, by omega, rfl, by go_num, Lib.hid ⟨so, n4, c4, t2, ⟨P, r⟩ :: E, ?_⟩⟩
        obtain ⟨h51, h52, h53, h54, h55⟩ := H5.out
        obtain ⟨hgb, hb7, hmap⟩ := HW7.out
        obtain ⟨hg2, hke2, hkp⟩ := HS.out
        have hws : w.heap.size ≤ W4.heap.size := HA4.out.below.size
        have e0 := (hgb w.heap.size (by omega) (by omega)).trans (h55 w.heap.size (by omega))
        have e1 := hgb tb (by omega) (by omega)
        refine ⟨hb7, hwtb, htm, (World.cell?_of_block (a := ⟨tb, 0, none⟩) e1).trans h52, (World.cell?_of_block (a := ⟨tb, 1, none⟩) e1).trans h53, fun o => (World.frozen?_of_block (a := ⟨tb, o, none⟩) e1).trans (h54 o),
          (World.cell?_of_block (a := ⟨w.heap.size, 0, none⟩) e0).trans HA4.out.z0, (World.cell?_of_block (a := ⟨w.heap.size, 1, none⟩) e0).trans HA4.out.z1, fun o => (World.frozen?_of_block (a := ⟨w.heap.size, o, none⟩) e0).trans (HA4.out.zf o), fun w'' hs hk' => hkp w'' ⟨by omega, fun b b1 b2 => ?_⟩, hg2, hke2, by rw [List.length_cons, HEL.out], hmap⟩
        have hWs : W3.heap.size ≤ w4.heap.size := HB4.out.1.size
        exact (hk' b (by omega) (by omega) (by omega) (by omega)).trans ((hgb b (by omega) (by omega)).trans ((h55 b (by omega)).trans (HB4.out.2.block b b2)))
    · have hA' := hA
      have HA := Lib.hid hA
      obtain ⟨x0, x1, x2, x3, x4, x5, x6, x7, x8, -, -, -, -, -⟩ := hA'
      clear hA
      have HP : ∀ w', w' = (wr.setCell ⟨w.heap.size, 0, none⟩ (.slice s n c)).setCell ⟨w.heap.size, 1, none⟩ (.int .i64 t.root) → KtPost many w (.returned (.tuple #[.agg #[.slice s n c, .int .i64 t.root], .map (some mb)])) w' := fun w' hw' => by
        have hob : ∀ b, b ≠ w.heap.size → w'.heap[b]? = wr.heap[b]? := fun b hb => by
          rw [hw']; exact (heap_setCell_other _ ⟨w.heap.size, _, none⟩ b _ hb).trans (heap_setCell_other _ ⟨w.heap.size, _, none⟩ b _ hb)
        have hsz : w'.heap.size = wr.heap.size := by rw [hw']; simp only [heap_setCell_size]
        have hml := HA.out.map.lt
        refine ⟨by rw [hw']; exact (x0.setCell (Nat.le_refl _) _).setCell (Nat.le_refl _) _, s, n, c, t, mb, E, rfl, by omega, by omega, fun w'' hK => ?_, HA.out.grown, HA.out.ke, by rw [HA.out.len]; omega, HA.out.map.block (hob mb (by omega))⟩
        refine HA.out.tree _ (by have := hK.size; omega) fun b b1 b2 b3 b4 => ?_
        exact (hK.block b (by omega) (by omega)).trans (hob b (by omega))
      have HPP := Lib.hid HP
      clear HP
      by_cases h1 : k < xs.length
      · have h2 : ¬ k < 150 := fun h => hlt ⟨h1, h⟩
        have h1' : (k : Int) < (xs.length : Int) := by omega
        have h2' : ¬ (k : Int) < 150 := by omega
        go_wp2_with fail
        exact bodyPost_ret (v := .tuple #[.agg #[.slice s n c, .int .i64 t.root], .map (some mb)]) (by simp [results, Try.results9, go_sem, *]) rfl (HPP.out _ rfl)
      · have h1' : ¬ (k : Int) < (xs.length : Int) := by omega
        go_wp2_with fail
        exact bodyPost_ret (v := .tuple #[.agg #[.slice s n c, .int .i64 t.root], .map (some mb)]) (by simp [results, Try.results9, go_sem, *]) rfl (HPP.out _ rfl)
end Go.Proofs.Ytggcinmjmkfboaa

/- tree.All, tree.Of, tree.Check where nothing can go wrong; what a grown tree tells. -/
namespace Go.Proofs.Ytggcinmjmkfboaa
open Go.RowKit

theorem all_is {v : Value} {t : Tr} {L : List Ent} {lo hi : Int} {w : World} (h : TreeAt w v t) (hf : treeFault t = 0) (ha : allR t lo hi = some L) :
    Calls Try.prog 11 #[v, .int .i64 lo, .int .i64 hi] w fun e w' => ∃ so sc, e = .returned (.tuple #[.slice so L.length sc, .int .i64 0]) ∧ Below w.heap.size w w' ∧ OwnEnts w.heap.size w' (.slice so L.length sc) L := by
  refine (all_any (lo := lo) (hi := hi) h).mono ?_
  rintro e w' ⟨hb, -, h2⟩
  have := h2 hf
  rw [ha] at this
  obtain ⟨v', rfl, ho⟩ := this
  obtain ⟨so, sc, rfl⟩ := ho.isSlice
  exact ⟨so, sc, rfl, hb, ho⟩
theorem check_is {v : Value} {t : Tr} {w : World} (h : TreeAt w v t) (hf : treeFault t = 0) :
    Calls Try.prog 12 #[v] w fun e w' => e = .returned (.int .i64 0) ∧ Below w.heap.size w w' := by
  have := treeCheck_any h
  rwa [hf] at this
theorem Grown.allR {E : List Ent} {t : Tr} (h : Grown E t) (hs : Small E) : allR t 0 1099511627776 = some (bag E) := by
  have := h.knows hs
  unfold allT at this
  rwa [if_pos h.fault] at this
end Go.Proofs.Ytggcinmjmkfboaa

/- tree.Get and tree.Put on a grown tree; Rollup told exactly. -/
namespace Go.Proofs.Ytggcinmjmkfboaa
open Go.RowKit

theorem get_is {v : Value} {t : Tr} {E : List Ent} {key : Int} {R : Roll} {w : World} (h : TreeAt w v t) (hg : Grown E t) (hs : Small E) (h0 : 0 ≤ key) (h1 : key < 1099511627776) (hR : look E key = R) :
    Calls Try.prog 10 #[v, .int .i64 key] w fun e w' => e = .returned (.tuple #[.agg #[.int .i64 R.c, .int .i64 R.s, .int .i64 R.mi, .int .i64 R.ma, .int .i64 R.t, .int .i64 R.l], .int .i64 0]) ∧ Below w.heap.size w w' := by
  have hgs : gotS t key = (R, 0) := by
    rw [got_at hg.fault h0 h1]
    unfold getA
    rw [if_pos (hg.get hs), hg.look, hR]
  have := get_any (key := key) h
  rw [hgs] at this
  exact this
end Go.Proofs.Ytggcinmjmkfboaa
