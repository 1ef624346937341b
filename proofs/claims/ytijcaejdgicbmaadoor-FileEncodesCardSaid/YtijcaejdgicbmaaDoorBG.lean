/- Texts of mine that come as one: FileP Bytes Enc Seal. -/
import Derived.Test.YtijcaejdgicbmaaDoorBaseMay
import Derived.Laws.Bits128
import Derived.Lib.EndianBits
import Derived.Lib.AppendStr
import Derived.Laws.BytesArg
import Derived.Lib.SlBytesConst
import Derived.Maps.AppendAt
import Derived.Test.YtijcaejdgicbmaaDoorSeen
/- Bases as bytes: what the document computes. No program in sight. -/
namespace Go.Proofs.YtijcaejdgicbmaaDoor

/-- A number in bytes of seven bits. -/
def sevensL (n : Nat) : List Int := if n < 128 then [(n : Int)] else (128 + (n % 128 : Nat) : Int) :: sevensL (n / 128)
termination_by n
theorem sevens_low {n : Nat} (h : n < 128) : sevensL n = [(n : Int)] := by rw [sevensL, if_pos h]
theorem sevens_high {n : Nat} (h : ¬ n < 128) : sevensL n = (128 + (n % 128 : Nat) : Int) :: sevensL (n / 128) := by rw [sevensL, if_neg h]
theorem sevens_len : ∀ (k n : Nat), n < 128 ^ (k + 1) → (sevensL n).length ≤ k + 1
  | 0, n, h => by rw [sevens_low (by simpa using h)]; simp
  | k + 1, n, h => by
    by_cases hn : n < 128
    · rw [sevens_low hn]; simp
    · rw [sevens_high hn, List.length_cons]
      have : n / 128 < 128 ^ (k + 1) := by
        rw [Nat.div_lt_iff_lt_mul (by decide)]
        rw [Nat.pow_succ] at h; exact h
      have := sevens_len k (n / 128) this
      omega
theorem sevens_nine {n : Nat} (h : n < 9223372036854775808) : (sevensL n).length ≤ 9 := sevens_len 8 n (by simpa using h)
theorem sevens_pos (n : Nat) : 0 < (sevensL n).length := by
  rw [sevensL]; split <;> simp
theorem sevens_bytes : ∀ (n : Nat), ∀ c ∈ sevensL n, 0 ≤ c ∧ c ≤ 255 := by
  intro n
  induction n using Nat.strongRecOn with
  | _ n ih =>
    by_cases hn : n < 128
    · rw [sevens_low hn]; intro c hc; simp at hc; omega
    · rw [sevens_high hn]
      intro c hc
      rcases List.mem_cons.1 hc with rfl | hc
      · omega
      · exact ih (n / 128) (by omega) c hc
def zigsL (n : Int) : List Int := if n < 0 then sevensL (-2 * n - 1).toNat else sevensL (2 * n).toNat
def namesL (ns : List ByteArray) : List Int := ns.flatMap fun s => sevensL s.size ++ nums s
def entL (last : Int) (e : Ent) : List Int := sevensL (e.key - last).toNat ++ sevensL e.is.c.toNat ++ zigsL e.is.s ++ zigsL e.is.mi ++ zigsL e.is.ma ++ zigsL e.is.l
def entsL : Int → List Ent → List Int
  | _, [] => []
  | last, e :: l => entL last e ++ entsL e.key l
def bytesL (b : Ba) (l : List Ent) : List Int := [119, 110] ++ sevensL b.names.length ++ namesL b.names ++ sevensL b.floor.toNat ++ sevensL l.length ++ entsL 0 l
def sealStep (p : Int × Int) (c : Int) : Int × Int := ((p.1 + c) % 65521, (p.2 + (p.1 + c) % 65521) % 65521)
def sealXY (bs : List Int) : Int × Int := bs.foldl sealStep (1, 0)
def sealL (bs : List Int) : List Int := [(sealXY bs).2 / 256, (sealXY bs).2 % 256, (sealXY bs).1 / 256, (sealXY bs).1 % 256]
noncomputable def encE (b : Ba) : Int :=
  if baseMay b = false then 7 else match bookR b with | none => 0 | some l => if 10000 < l.length then 1 else if 200000 < (bytesL b l).length + 4 then 1 else 0
noncomputable def encL (b : Ba) : List Int :=
  if baseMay b = false then [] else match bookR b with | none => [] | some l => if 10000 < l.length then [] else if 200000 < (bytesL b l).length + 4 then [] else bytesL b l ++ sealL (bytesL b l)

theorem seal_range (bs : List Int) : ∀ (p : Int × Int), (0 ≤ p.1 ∧ p.1 < 65521 ∧ 0 ≤ p.2 ∧ p.2 < 65521) → (0 ≤ (bs.foldl sealStep p).1 ∧ (bs.foldl sealStep p).1 < 65521 ∧ 0 ≤ (bs.foldl sealStep p).2 ∧ (bs.foldl sealStep p).2 < 65521) := by
  induction bs with
  | nil => intro p hp; exact hp
  | cons c bs ih =>
    intro p hp
    rw [List.foldl_cons]
    refine ih _ ?_
    unfold sealStep
    simp only
    omega
theorem sealXY_range (bs : List Int) : 0 ≤ (sealXY bs).1 ∧ (sealXY bs).1 < 65521 ∧ 0 ≤ (sealXY bs).2 ∧ (sealXY bs).2 < 65521 := seal_range bs (1, 0) (by decide)
theorem sealXY_step {bs : List Int} {k : Nat} (hk : k < bs.length) : sealXY (bs.take (k + 1)) = sealStep (sealXY (bs.take k)) bs[k] := by
  unfold sealXY; rw [List.take_succ_eq_append_getElem hk, List.foldl_append]; rfl
def AllBytes (l : List Int) : Prop := ∀ c ∈ l, 0 ≤ c ∧ c ≤ 255
theorem AllBytes.app {a b : List Int} (ha : AllBytes a) (hb : AllBytes b) : AllBytes (a ++ b) := fun c hc => by
  rcases List.mem_append.1 hc with h | h
  · exact ha c h
  · exact hb c h
theorem zigs_bytes (n : Int) : AllBytes (zigsL n) := by unfold zigsL; split <;> exact sevens_bytes _
theorem seal_bytes (bs : List Int) : AllBytes (sealL bs) := by
  have := sealXY_range bs
  intro c hc
  simp [sealL] at hc
  omega
theorem names_bytes (ns : List ByteArray) : AllBytes (namesL ns) := fun c hc => by
  obtain ⟨s, _, hs⟩ := List.mem_flatMap.1 hc
  exact (AllBytes.app (sevens_bytes _) (nums_range s)) c hs
theorem ents_bytes : ∀ (l : List Ent) (last : Int), AllBytes (entsL last l)
  | [], _ => fun c hc => by cases hc
  | e :: l, last => AllBytes.app (((((AllBytes.app (sevens_bytes _) (sevens_bytes _)).app (zigs_bytes _)).app (zigs_bytes _)).app (zigs_bytes _)).app (zigs_bytes _)) (ents_bytes l e.key)
theorem bytes_bytes (b : Ba) (l : List Ent) : AllBytes (bytesL b l) :=
  ((((AllBytes.app (fun c hc => by simp at hc; omega) (sevens_bytes _)).app (names_bytes _)).app (sevens_bytes _)).app (sevens_bytes _)).app (ents_bytes l 0)
theorem zigs_len {n : Int} (h1 : -4611686018427387903 ≤ n) (h2 : n < 4611686018427387904) : (zigsL n).length ≤ 9 := by
  unfold zigsL
  split
  · exact sevens_nine (by omega)
  · exact sevens_nine (by omega)
theorem names_len : ∀ {ns : List ByteArray}, (∀ s ∈ ns, s.size ≤ 10) → (namesL ns).length ≤ 19 * ns.length
  | [], _ => by simp [namesL]
  | s :: ns, h => by
    have h1 := h s (by simp)
    have h2 := names_len (ns := ns) fun x hx => h x (by simp [hx])
    have h3 := sevens_nine (n := s.size) (by omega)
    have e : namesL (s :: ns) = (sevensL s.size ++ nums s) ++ namesL ns := rfl
    rw [e, List.length_append, List.length_append, nums_length, List.length_cons]
    omega
/-- Entries that a base may hold: each number is small. -/
theorem ents_len : ∀ {l : List Ent} {last : Int}, PGood l → 0 ≤ last → (entsL last l).length ≤ 54 * l.length
  | [], _, _, _ => by simp [entsL]
  | e :: l, last, h, hl => by
    obtain ⟨g1, g2⟩ := h.2.1 e (by simp)
    have hc := h.1 e (by simp)
    obtain ⟨hg, hcc⟩ := good_check hc.2 hc.1
    have hs := good_sum hg hcc
    have h2 := ents_len (l := l) (last := e.key) ⟨fun x hx => h.1 x (by simp [hx]), fun x hx => h.2.1 x (by simp [hx]), by have := h.2.2; simp at this; omega⟩ g1
    obtain ⟨k0, k1, k2, k3, k4, k5, k6, _⟩ := hg
    have a1 := sevens_nine (n := (e.key - last).toNat) (by omega)
    have a2 := sevens_nine (n := e.is.c.toNat) (by omega)
    have a3 := zigs_len (n := e.is.s) (by omega) (by omega)
    have a4 := zigs_len (n := e.is.mi) (by omega) (by omega)
    have a5 := zigs_len (n := e.is.ma) (by omega) (by omega)
    have a6 := zigs_len (n := e.is.l) (by omega) (by omega)
    simp only [entsL, entL, List.length_append, List.length_cons]
    omega
end Go.Proofs.YtijcaejdgicbmaaDoor

/- Bytes in memory; append to bytes; numbers as bytes: file.number, file.signed. -/
namespace Go.Proofs.YtijcaejdgicbmaaDoor
open Go.RowKit

def enB (n : Int) : List Value := [.int .u8 n]
theorem enB_length (n : Int) : (enB n).length = 1 := rfl
theorem enB_one (xs : List Int) : ∀ u ∈ xs.flatMap enB, u.oneCell' = true := by
  intro u hu
  obtain ⟨x, _, hx⟩ := List.mem_flatMap.1 hu
  simp [enB] at hx
  subst hx; rfl
theorem enB_flat (xs : List Int) : xs.flatMap enB = xs.map (Value.int .u8) := by
  induction xs with
  | nil => rfl
  | cons x xs ih => rw [List.flatMap_cons, ih]; rfl
theorem enB_flat_length (xs : List Int) : (xs.flatMap enB).length = xs.length := by rw [enB_flat, List.length_map]
abbrev ByteSl (w : World) (v : Value) (xs : List Int) : Prop := SlAt 1 1 enB w v xs
theorem Tryd.iByte : (Tryd.prog.info? 5).map (fun i => (i.zero.map (fun z => z.cells.size), i.size, i.bytes)) = some (some 1, 1, 1) := by kernel_rfl
theorem Tryd.zByte : (Tryd.prog.info? 5).map (fun i => (i.zero, i.size, i.bytes)) = some (some (.int .u8 0), 1, 1) := by kernel_rfl
/-- The slice value v is a row of the call's own (from block B on) that holds these bytes. -/
structure OwnBytes (B : Nat) (w : World) (v : Value) (es : List Int) : Prop where
  row : w.ownsRow B 5 1 v es.length (es.flatMap enB)
theorem OwnBytes.nil (B : Nat) (w : World) : OwnBytes B w (.slice none 0 0) [] := ⟨World.ownsRow_nil _ _ _ _⟩
theorem OwnBytes.alloc {B : Nat} {w : World} {v : Value} {es : List Int} (h : OwnBytes B w v es) (o : Obj) : OwnBytes B (w.alloc o) v es := ⟨World.ownsRow.alloc h.row o⟩
theorem OwnBytes.block {B : Nat} {w w' : World} {v : Value} {es : List Int} (h : OwnBytes B w v es) (hb : ∀ g, v.ownBlock = some g → w'.heap[g]? = w.heap[g]?) : OwnBytes B w' v es := by
  obtain ⟨hl, ⟨rfl, h0⟩ | ⟨g, cap, cur, rfl, hB, hg, h1, h2, h3, h4⟩⟩ := h.row
  · exact ⟨⟨hl, .inl ⟨rfl, h0⟩⟩⟩
  · exact ⟨⟨hl, .inr ⟨g, cap, cur, rfl, hB, (hb g rfl).trans hg, h1, h2, h3, h4⟩⟩⟩
theorem OwnBytes.drew {B : Nat} {w : World} {v : Value} {es : List Int} (h : OwnBytes B w v es) : OwnBytes B w.drew v es := h.block fun _ _ => rfl
theorem OwnBytes.drewN {B : Nat} {w : World} {v : Value} {es : List Int} (h : OwnBytes B w v es) (n : Nat) : OwnBytes B (w.drewN n) v es := h.block fun _ _ => rfl
theorem OwnBytes.lt {B : Nat} {w : World} {v : Value} {es : List Int} (h : OwnBytes B w v es) : ∀ g, v.ownBlock = some g → B ≤ g ∧ g < w.heap.size := World.ownsRow.lt h.row
theorem OwnBytes.below {B C : Nat} {w w' : World} {v : Value} {es : List Int} (h : OwnBytes B w v es) (hb : Below C w w') (hC : w.heap.size ≤ C) : OwnBytes B w' v es := h.block fun g hg => hb.block g (by have := (h.lt g hg).2; omega)
theorem OwnBytes.mono {B C : Nat} {w : World} {v : Value} {es : List Int} (h : OwnBytes B w v es) (hC : C ≤ B) : OwnBytes C w v es := by
  obtain ⟨hl, ⟨rfl, h0⟩ | ⟨g, cap, cur, rfl, hB, hg, h1, h2, h3, h4⟩⟩ := h.row
  · exact ⟨⟨hl, .inl ⟨rfl, h0⟩⟩⟩
  · exact ⟨⟨hl, .inr ⟨g, cap, cur, rfl, by omega, hg, h1, h2, h3, h4⟩⟩⟩
theorem OwnBytes.at {B : Nat} {w : World} {v : Value} {es : List Int} (h : OwnBytes B w v es) (hs : es.length ≤ 1000000) : ByteSl w v es := SlAt.owned enB_length h.row rfl (by omega)
theorem OwnBytes.isSlice {B : Nat} {w : World} {v : Value} {es : List Int} (h : OwnBytes B w v es) : ∃ ao cap, v = .slice ao es.length cap := by
  obtain ⟨hl, ⟨rfl, h0⟩ | ⟨g, cap, cur, rfl, _⟩⟩ := h.row
  · exact ⟨none, 0, by rw [h0]⟩
  · exact ⟨_, _, rfl⟩

/-- 'append' of bytes to such a row. -/
theorem wpList_append_bytes {w : World} {ops : Array Oper} {rest : List Oper} {o : Oper} {a : Act} {Q : Exit → Act → World → Prop} (hgd : o.guard = none) (s x : Operand)
    (ho : o.op = .call { callee := .builtin .append, args := #[s, x], argTypes := #[37, 37] }) (B : Nat) (v : Value) (es : List Int) (hs : a.eval s = v) (hown : OwnBytes B w v es)
    (ad : Addr) (m c : Nat) (ys : List Int) (hm : m = ys.length) (hx : a.eval x = .slice (some ad) m c) (hnews : ∀ j u, (ys.flatMap enB)[j]? = some u → w.cell? (ad.add j) = some u) (hlen : es.length ≤ 1000000) (hlen2 : ys.length ≤ 1000000) (hbase : B ≤ w.heap.size)
    (h : ∀ v' w', OwnBytes B w' v' (es ++ ys) → Turn (fun b => v.ownBlock = some b) w w' → (∀ b, v'.ownBlock = some b → v.ownBlock = some b ∨ w.heap.size ≤ b) → wpList Tryd.prog ops Q rest (a.put o.dst v') w') : wpList Tryd.prog ops Q (o :: rest) a w := by
  subst hm
  obtain ⟨i0, z, hi, hz, hz1, hz2, hz3⟩ := info_some Tryd.iByte
  refine wpList_append_own_at w hgd s x 37 ho B 5 i0 z 1 1 Tryd.underlying37 hi hz hz1 hz2 hz3 (by decide) v es.length _ hs hown.row ad ys.length c (ys.flatMap enB) hx (by rw [enB_flat_length]; omega) hnews (enB_one ys) (by unfold maxLen; omega) (by omega) hbase ?_
  intro v' w' hown' hg _ hloc
  refine h v' w' ?_ (Turn.grown (Turn.refl _ _) hg (fun k hk => .inl hk)) (fun b hb => by
    rcases hloc with h | h
    · exact .inl (h.symm.trans hb)
    · rw [hb] at h; injection h with h; exact .inr (by omega))
  have : (es ++ ys).flatMap enB = es.flatMap enB ++ ys.flatMap enB := by simp
  refine ⟨?_⟩
  rw [this, List.length_append]
  exact hown'
theorem strCells_nums (s : ByteArray) : Lib.strCells s = (nums s).flatMap enB := by
  rw [enB_flat]; simp [Lib.strCells, nums]
/-- .. of a string's bytes. -/
theorem wpList_append_str {w : World} {ops : Array Oper} {rest : List Oper} {o : Oper} {a : Act} {Q : Exit → Act → World → Prop} (hgd : o.guard = none) (s x : Operand)
    (ho : o.op = .call { callee := .builtin .append, args := #[s, x], argTypes := #[37, 9] }) (B : Nat) (v : Value) (es : List Int) (hs : a.eval s = v) (hown : OwnBytes B w v es)
    (st : ByteArray) (hx : a.eval x = .string st) (hlen : es.length ≤ 1000000) (hlen2 : st.size ≤ 1000000) (hbase : B ≤ w.heap.size)
    (h : ∀ v' w', OwnBytes B w' v' (es ++ nums st) → (∀ C W, Below C W w → C ≤ B → Below C W w') → wpList Tryd.prog ops Q rest (a.put o.dst v') w') : wpList Tryd.prog ops Q (o :: rest) a w := by
  obtain ⟨i0, hi, hz, hz1, hz2⟩ : ∃ i0, Tryd.prog.info? 5 = some i0 ∧ i0.zero = some (.int .u8 0) ∧ i0.size = 1 ∧ i0.bytes = 1 := by
    have := Tryd.zByte
    cases h : Tryd.prog.info? 5 with
    | none => rw [h] at this; cases this
    | some i => rw [h] at this; simp at this; exact ⟨i, rfl, this.1, this.2.1, this.2.2⟩
  refine Lib.wpList_append_own_string w hgd s x 37 9 ho B 5 i0 Tryd.underlying37 Tryd.underlying9 hi hz hz1 hz2 v es.length _ hs hown.row st hx (by unfold maxLen; omega) (by omega) hbase ?_
  intro v' w' hown' hg _
  refine h v' w' ?_ fun C W hb hC => Below.grown hb hg (by omega) (fun j hj => by have := (hown.lt j hj).1; omega)
  refine ⟨?_⟩
  rw [List.flatMap_append, List.length_append, nums_length, ← strCells_nums]
  exact hown'
theorem byte_new {w : World} {C : Array Value} {T : TypeId} {j : Nat} {u : Value} (h : C[j]? = some u) : (w.alloc (.cells C T)).cell? (Addr.add ⟨w.heap.size, 0, none⟩ j) = some u := by
  have ha : Addr.add ⟨w.heap.size, 0, none⟩ j = ⟨w.heap.size, j, none⟩ := by simp [Addr.add]; omega
  have hk : (w.alloc (.cells C T)).heap[w.heap.size]? = some (.cells C T) := by show (w.heap.push _)[w.heap.size]? = _; simp
  rw [ha]; simp only [World.cell?, hk]; exact h
theorem i64_or128 (n : Int) : bits .or .i64 (n % 128) 128 = 128 + n % 128 := by
  rw [bits_join_low .i64 63 (by decide) (fun n h0 h1 => IntWalk.i64_in _ (by omega)) 7 (n % 128) 128 (by omega) (by omega) (by omega) (by omega) (by omega) (by omega)]; omega
theorem u8_wrap {n : Int} (h0 : 0 ≤ n) (h1 : n ≤ 255) : IntKind.u8.wrap n = n := by
  rw [IntKind.wrap_u8]; omega

/-- Bytes came to a row: of the blocks that were there its own alone may have turned. -/
def BytesPost (B : Nat) (w : World) (v : Value) (xs : List Int) (e : Ending) (w' : World) : Prop :=
  Turn (fun b => v.ownBlock = some b) w w' ∧ ∃ v', e = .returned v' ∧ OwnBytes B w' v' xs ∧ ∀ b, v'.ownBlock = some b → v.ownBlock = some b ∨ w.heap.size ≤ b

set_option maxRecDepth 100000 in
set_option maxHeartbeats 1000000 in
theorem number_any {B : Nat} {v : Value} {xs : List Int} {n : Int} {w : World} (hown : OwnBytes B w v xs) (hB : B ≤ w.heap.size) (hn : 0 ≤ n) (hn2 : n < 9223372036854775808) (hlen : xs.length ≤ 990000) :
    Calls Tryd.prog 45 #[v, .int .i64 n] w (BytesPost B w v (xs ++ sevensL n.toNat)) := by
  obtain ⟨ao, cap, rfl⟩ := hown.isSlice
  obtain ⟨m, rfl⟩ := Int.eq_ofNat_of_zero_le hn
  have HT := Lib.hid (show (xs ++ sevensL m).length ≤ 990009 by rw [List.length_append]; have := sevens_nine (n := m) (by omega); omega)
  go_enter Tryd.func45, Tryd.ntmps45
  go_wp2_with fail
  go_loopg [0, 1] m (fun g bv nv wr => ∃ (k : Nat) (ys : List Int), g = k ∧ nv = .int .i64 k ∧ k < 9223372036854775808 ∧ OwnBytes B wr bv ys ∧ Hid (ys ++ sevensL k = xs ++ sevensL m) ∧ Hid (Turn (fun b => (Value.slice ao xs.length cap).ownBlock = some b) w wr) ∧ Hid (∀ b, bv.ownBlock = some b → (Value.slice ao xs.length cap).ownBlock = some b ∨ w.heap.size ≤ b))
  case atStart => exact ⟨m, xs, rfl, rfl, by omega, hown, Lib.hid rfl, Lib.hid (Turn.refl _ _), Lib.hid fun b hb => .inl hb⟩
  case round =>
    obtain ⟨k, ys, hgk, rfl, hk, ho, HY, HTU, HLO⟩ := hrel
    obtain rfl := hgk.symm
    obtain ⟨so, sc, rfl⟩ := ho.isSlice
    have hsz : B ≤ wr.heap.size := Nat.le_trans hB HTU.out.size
    have hyl : ys.length ≤ 1000000 := by
      have h1 := HT.out
      rw [← HY.out, List.length_append] at h1
      omega
    have hsl : (1 : Nat) ≤ 1000000 := by omega
    have HTT := Lib.hid fun w2 (w3 : World) (ht : Turn (fun b => (Value.slice so ys.length sc).ownBlock = some b) w2 w3) (h2 : Below wr.heap.size wr w2) => (Turn.trans' (Turn.trans' HTU.out (Turn.of (X := fun _ => False) h2 (Nat.le_refl _)) (fun _ _ h => h.elim)) ht (fun i hi hx => by
      rcases HLO.out i hx with h | h
      · exact h
      · omega) : Turn (fun b => (Value.slice ao xs.length cap).ownBlock = some b) w w3)
    have HLL := Lib.hid fun (w2 : World) (v3 : Value) (h2 : wr.heap.size ≤ w2.heap.size) (hl : ∀ b, v3.ownBlock = some b → (Value.slice so ys.length sc).ownBlock = some b ∨ w2.heap.size ≤ b) => (fun b hb => by
      have := HTU.out.size
      rcases hl b hb with h | h
      · exact HLO.out b h
      · exact .inr (by omega) : ∀ b, v3.ownBlock = some b → (Value.slice ao xs.length cap).ownBlock = some b ∨ w.heap.size ≤ b)
    by_cases hlt : k < 128
    · have hd : decide ((127 : Int) < (k : Int)) = false := by simp; omega
      have HE := Lib.hid (show ys ++ [(k : Int)] = xs ++ sevensL m by rw [← HY.out, sevens_low hlt])
      have hw : IntKind.u8.wrap (k : Int) = (k : Int) := u8_wrap (by omega) (by omega)
      clear hlt
      go_wp2_with ((at_builtin; refine wpList_append_bytes rfl (.tmp 16) (.tmp 19) rfl B _ ys rfl (by repeat (first | assumption | with_reducible refine OwnBytes.alloc ?_ _ | with_reducible refine OwnBytes.drewN ?_ _ | with_reducible refine OwnBytes.drew ?_)) ⟨_, 0, none⟩ 1 1 [(k : Int)] rfl rfl (fun j u h => byte_new (by simpa [enB] using h)) hyl hsl (by first | omega | (simp; done) | (simp; omega) | (simp [drew_size]; done) | (simp [drew_size]; omega)) ?_; intro v3 w3 own3 ht3 hl3; have hb3 := HTT.out _ _ ht3 (by repeat (first | with_reducible exact Below.refl _ _ | with_reducible assumption | with_reducible refine below_dn ?_ _ | with_reducible refine Below.drew ?_ | with_reducible refine Below.alloc ?_ (by first | omega | (simp; done) | (simp; omega) | (simp [drew_size]; done) | (simp [drew_size]; omega)) _ | with_reducible refine Below.setCell ?_ (by first | omega | (simp; done) | (simp; omega) | (simp [drew_size]; done) | (simp [drew_size]; omega)) _)); have hq3 := HLL.out _ _ (by first | omega | (simp; done) | (simp; omega) | (simp [drew_size]; done) | (simp [drew_size]; omega)) hl3))
      go_ret
      rw [HE.out] at own3
      exact ⟨hb3, _, rfl, own3, hq3⟩
    · have hd : decide ((127 : Int) < (k : Int)) = true := by simp; omega
      have HE := Lib.hid (show (ys ++ [128 + (k : Int) % 128]) ++ sevensL (k / 128) = xs ++ sevensL m by
        rw [← HY.out, sevens_high hlt, List.append_assoc]; simp)
      have a1 := i64_and127 (k : Int)
      have a2 := i64_or128 (k : Int)
      have hw : IntKind.u8.wrap (128 + (k : Int) % 128) = 128 + (k : Int) % 128 := u8_wrap (by omega) (by omega)
      clear hlt
      go_wp2_with ((at_builtin; refine wpList_append_bytes rfl (.tmp 7) (.tmp 12) rfl B _ ys rfl (by repeat (first | assumption | with_reducible refine OwnBytes.alloc ?_ _ | with_reducible refine OwnBytes.drewN ?_ _ | with_reducible refine OwnBytes.drew ?_)) ⟨_, 0, none⟩ 1 1 [128 + (k : Int) % 128] rfl rfl (fun j u h => byte_new (by simpa [enB] using h)) hyl hsl (by first | omega | (simp; done) | (simp; omega) | (simp [drew_size]; done) | (simp [drew_size]; omega)) ?_; intro v3 w3 own3 ht3 hl3; have hb3 := HTT.out _ _ ht3 (by repeat (first | with_reducible exact Below.refl _ _ | with_reducible assumption | with_reducible refine below_dn ?_ _ | with_reducible refine Below.drew ?_ | with_reducible refine Below.alloc ?_ (by first | omega | (simp; done) | (simp; omega) | (simp [drew_size]; done) | (simp [drew_size]; omega)) _ | with_reducible refine Below.setCell ?_ (by first | omega | (simp; done) | (simp; omega) | (simp [drew_size]; done) | (simp [drew_size]; omega)) _)); have hq3 := HLL.out _ _ (by first | omega | (simp; done) | (simp; omega) | (simp [drew_size]; done) | (simp [drew_size]; omega)) hl3))
      go_roundg (k / 128)
      case measure => have := of_decide_eq_true hd; omega
      case rel => exact ⟨k / 128, ys ++ [128 + (k : Int) % 128], rfl, int_eq (by omega), by omega, own3, HE, Lib.hid hb3, Lib.hid hq3⟩
theorem BytesPost.below {B : Nat} {w : World} {v : Value} {xs : List Int} {e : Ending} {w' : World} (h : BytesPost B w v xs e w') (hv : ∀ b, v.ownBlock = some b → B ≤ b) (hB : B ≤ w.heap.size) : Below B w w' := h.1.below (Below.refl _ _) hB (fun i hi => hv i hi)
end Go.Proofs.YtijcaejdgicbmaaDoor

/- The walks of file.signed, file.sum; of the document's sevens, zigs, SealOf. -/
namespace Go.Proofs.YtijcaejdgicbmaaDoor
open Go.RowKit

/-- A slice of bytes that was just laid. -/
theorem OwnBytes.made {B : Nat} {w : World} {C : Array Value} {ys : List Int} {n : Nat} (hC : C.toList = ys.flatMap enB) (hn : n = ys.length) (hl : ys.length ≤ 1000000) (hB : B ≤ w.heap.size) : OwnBytes B (w.alloc (.cells C 5)) (.slice (some ⟨w.heap.size, 0, none⟩) n n) ys := by
  subst hn
  have hs : C.size = ys.length := by
    have := congrArg List.length hC
    rw [enB_flat_length] at this; simpa using this
  refine ⟨⟨by rw [enB_flat_length]; omega, .inr ⟨w.heap.size, ys.length, C, rfl, hB, ?_, Nat.le_refl _, by unfold maxLen; omega, by omega, ?_⟩⟩⟩
  · show (w.heap.push _)[w.heap.size]? = _; simp
  · rw [List.take_of_length_le (by simp; omega)]; exact hC
theorem OwnBytes.cells {B : Nat} {w : World} {g n cap : Nat} {xs : List Int} (h : OwnBytes B w (.slice (some ⟨g, 0, none⟩) n cap) xs) (hl : 0 < xs.length) : ∀ j u, (xs.flatMap enB)[j]? = some u → w.cell? (Addr.add ⟨g, 0, none⟩ j) = some u := by
  obtain ⟨_, ⟨hv, h0⟩ | ⟨g', cap', cur, hv, _, hg, _, _, _, h4⟩⟩ := h.row
  · omega
  · injection hv with hv1 _ _
    injection hv1 with hv1
    injection hv1 with hv1 _
    subst hv1
    intro j u hj
    rw [← h4, List.getElem?_take] at hj
    split at hj
    · have ha : Addr.add ⟨g, 0, none⟩ j = ⟨g, j, none⟩ := by simp [Addr.add]; omega
      rw [ha]; simp only [World.cell?, hg]; simpa using hj
    · cases hj
theorem OwnBytes.form {B : Nat} {w : World} {v : Value} {xs : List Int} (h : OwnBytes B w v xs) (hl : 0 < xs.length) : ∃ g cap, v = .slice (some ⟨g, 0, none⟩) xs.length cap := Joins.ownsRow_form h.row hl

set_option maxRecDepth 100000 in
set_option maxHeartbeats 1000000 in
/-- file.number on a literal's bytes. -/
theorem number_lit {g : Nat} {w : World} (n : Nat) (hn : n < 128) (hg : w.heap[g]? = some (.cells #[.int .u8 119, .int .u8 110] 5 (2, 3))) :
    Calls Tryd.prog 45 #[.slice (some ⟨g, 0, none⟩) 2 2, .int .i64 n] w fun e w' => Below w.heap.size w w' ∧ ∃ v', e = .returned v' ∧ OwnBytes w.heap.size w' v' ([119, 110] ++ sevensL n) := by
  obtain ⟨i0, z, hi, hz, hz1, hz2, hz3⟩ := info_some Tryd.iByte
  have hgz : g < w.heap.size := (Array.getElem?_eq_some_iff.1 hg).1
  have hcell : ∀ w', Below w.heap.size w w' → ∀ b, (some ⟨g, 0, none⟩ : Option Addr) = some b → ∀ j u, ([119, 110].flatMap enB)[j]? = some u → w'.cell? (b.add j) = some u := fun w' hb b hbe j u hj => by
    injection hbe with hbe
    subst hbe
    have ha : Addr.add ⟨g, 0, none⟩ j = ⟨g, j, none⟩ := by simp [Addr.add]; omega
    have h1 : w'.heap[g]? = _ := (hb.block _ hgz).trans hg
    rw [ha]; simp only [World.cell?, h1]; simpa [enB] using hj
  have HC := Lib.hid hcell
  have HE := Lib.hid (sevens_low hn)
  have hd : decide ((127 : Int) < (n : Int)) = false := by simp; omega
  have hw : IntKind.u8.wrap (n : Int) = (n : Int) := u8_wrap (by omega) (by omega)
  clear hcell hn
  go_enter Tryd.func45, Tryd.ntmps45
  go_wp2_with fail
  go_loopg [0, 1] 0 (fun g' bv nv wr => bv = .slice (some ⟨g, 0, none⟩) 2 2 ∧ nv = .int .i64 n ∧ wr = w)
  case atStart => exact ⟨rfl, rfl, rfl⟩
  case round =>
    obtain ⟨rfl, rfl, hwr⟩ := hrel
    obtain rfl := hwr.symm
    go_wp2_with ((at_builtin; refine wpList_append_grows _ rfl (.tmp 16) (.tmp 19) 37 rfl 5 i0 z 1 1 Tryd.underlying37 hi hz hz1 hz2 hz3 (by decide) (some ⟨g, 0, none⟩) 2 2 ([119, 110].flatMap enB) rfl (fun h => by cases h) rfl (HC.out _ (by repeat (first | with_reducible exact Below.refl _ _ | with_reducible assumption | with_reducible refine below_dn ?_ _ | with_reducible refine Below.drew ?_ | with_reducible refine Below.alloc ?_ (by first | omega | (simp; done) | (simp; omega) | (simp [drew_size]; done) | (simp [drew_size]; omega)) _ | with_reducible refine Below.setCell ?_ (by first | omega | (simp; done) | (simp; omega) | (simp [drew_size]; done) | (simp [drew_size]; omega)) _))) ⟨_, 0, none⟩ 1 1 ([(n : Int)].flatMap enB) rfl rfl (fun j u h => byte_new (by simpa [enB] using h)) (enB_one _) (by omega) (by unfold maxLen; omega) (by omega) ?_; intro v3 w3 own3 hg3; have hb3 : Below w.heap.size w w3 := Below.grown (show Below w.heap.size w _ from (by repeat (first | with_reducible exact Below.refl _ _ | with_reducible assumption | with_reducible refine below_dn ?_ _ | with_reducible refine Below.drew ?_ | with_reducible refine Below.alloc ?_ (by first | omega | (simp; done) | (simp; omega) | (simp [drew_size]; done) | (simp [drew_size]; omega)) _ | with_reducible refine Below.setCell ?_ (by first | omega | (simp; done) | (simp; omega) | (simp [drew_size]; done) | (simp [drew_size]; omega)) _))) hg3 (by first | omega | (simp; done) | (simp; omega) | (simp [drew_size]; done) | (simp [drew_size]; omega)) (fun k hk => by cases hk)))
    go_ret
    refine ⟨hb3, _, rfl, ?_⟩
    rw [HE.out]
    refine ⟨?_⟩
    have := Joins.ownsRow_le own3 (show w.heap.size ≤ _ from (by first | omega | (simp; done) | (simp; omega) | (simp [drew_size]; done) | (simp [drew_size]; omega)))
    simpa [enB] using this

set_option maxRecDepth 100000 in
set_option maxHeartbeats 1000000 in
theorem signed_any {B : Nat} {v : Value} {xs : List Int} {n : Int} {w : World} (hown : OwnBytes B w v xs) (hB : B ≤ w.heap.size) (hn : -4611686018427387903 ≤ n) (hn2 : n < 4611686018427387904) (hlen : xs.length ≤ 990000) :
    Calls Tryd.prog 46 #[v, .int .i64 n] w (BytesPost B w v (xs ++ zigsL n)) := by
  obtain ⟨ao, cap, rfl⟩ := hown.isSlice
  by_cases hlt : n < 0
  · have hd : decide (n < 0) = true := by simp [hlt]
    have m1 : IntKind.i64.wrap (-2 * n) = -2 * n := IntWalk.i64_in _ (by omega)
    have m2 : IntKind.i64.wrap (-2 * n - 1) = -2 * n - 1 := IntWalk.i64_in _ (by omega)
    have HN := Lib.hid (number_any (n := -2 * n - 1) hown hB (by omega) (by omega) hlen)
    have HE := Lib.hid (show zigsL n = sevensL (-2 * n - 1).toNat by unfold zigsL; rw [if_pos hlt])
    clear hlt hn hn2
    go_enter Tryd.func46, Tryd.ntmps46
    go_wp2_with ((go_at_call 45; (with_reducible refine HN.out.mono ?_); rintro e w3 ⟨hb3, v3, rfl, ho3, hl3⟩))
    go_ret
    rw [HE.out]
    exact ⟨hb3, _, rfl, ho3, hl3⟩
  · have hd : decide (n < 0) = false := by simp; omega
    have m1 : IntKind.i64.wrap (2 * n) = 2 * n := IntWalk.i64_in _ (by omega)
    have HN := Lib.hid (number_any (n := 2 * n) hown hB (by omega) (by omega) hlen)
    have HE := Lib.hid (show zigsL n = sevensL (2 * n).toNat by unfold zigsL; rw [if_neg hlt])
    clear hlt hn hn2
    go_enter Tryd.func46, Tryd.ntmps46
    go_wp2_with ((go_at_call 45; (with_reducible refine HN.out.mono ?_); rintro e w3 ⟨hb3, v3, rfl, ho3, hl3⟩))
    go_ret
    rw [HE.out]
    exact ⟨hb3, _, rfl, ho3, hl3⟩

set_option maxRecDepth 100000 in
set_option maxHeartbeats 1000000 in
theorem sevens_any : ∀ (n : Nat) (w : World), n < 9223372036854775808 → Calls Tryd.prog 48 #[.int .i64 n] w fun e w' => Below w.heap.size w w' ∧ ∃ v', e = .returned v' ∧ OwnBytes w.heap.size w' v' (sevensL n) := by
  intro n
  induction n using Nat.strongRecOn with
  | _ n ih =>
    intro w hn
    by_cases hlt : n < 128
    · have hd : decide ((n : Int) < 128) = true := by simp; omega
      have hw : IntKind.u8.wrap (n : Int) = (n : Int) := u8_wrap (by omega) (by omega)
      have HE := Lib.hid (sevens_low hlt)
      have HM := Lib.hid (OwnBytes.made (B := w.heap.size) (w := w) (C := #[.int .u8 n]) (ys := [(n : Int)]) (n := 1) rfl rfl (by simp) (Nat.le_refl _))
      clear hlt ih hn
      go_enter Tryd.func48, Tryd.ntmps48
      go_wp2
      go_ret
      rw [HE.out]
      exact ⟨(by repeat (first | with_reducible exact Below.refl _ _ | with_reducible assumption | with_reducible refine below_dn ?_ _ | with_reducible refine Below.drew ?_ | with_reducible refine Below.alloc ?_ (by first | omega | (simp; done) | (simp; omega) | (simp [drew_size]; done) | (simp [drew_size]; omega)) _ | with_reducible refine Below.setCell ?_ (by first | omega | (simp; done) | (simp; omega) | (simp [drew_size]; done) | (simp [drew_size]; omega)) _)), _, rfl, HM.out⟩
    · have hd : decide ((n : Int) < 128) = false := by simp; omega
      have hm1 : (n : Int).tmod 128 = (n : Int) % 128 := Int.tmod_eq_emod_of_nonneg (by omega)
      have hm2 : (n : Int).tdiv 128 = ((n / 128 : Nat) : Int) := by rw [Int.tdiv_eq_ediv_of_nonneg (by omega)]; omega
      have w1 : IntKind.i64.wrap ((n : Int) % 128) = (n : Int) % 128 := IntWalk.i64_in _ (by omega)
      have w2 : IntKind.i64.wrap (128 + (n : Int) % 128) = 128 + (n : Int) % 128 := IntWalk.i64_in _ (by omega)
      have w3 : IntKind.i64.wrap ((n / 128 : Nat) : Int) = ((n / 128 : Nat) : Int) := IntWalk.i64_in _ (by omega)
      have hw : IntKind.u8.wrap (128 + (n : Int) % 128) = 128 + (n : Int) % 128 := u8_wrap (by omega) (by omega)
      have HE := Lib.hid (sevens_high hlt)
      have HI := Lib.hid fun w => ih (n / 128) (by omega) w (by omega)
      have HM := Lib.hid (OwnBytes.made (B := w.heap.size) (w := w) (C := #[.int .u8 (128 + (n : Int) % 128)]) (ys := [128 + (n : Int) % 128]) (n := 1) rfl rfl (by simp) (Nat.le_refl _))
      have HL := Lib.hid (show (sevensL (n / 128)).length ≤ 9 from sevens_nine (by omega))
      have HP := Lib.hid (sevens_pos (n / 128))
      obtain ⟨q, hq⟩ : ∃ q, n / 128 = q := ⟨_, rfl⟩
      obtain ⟨r, hr⟩ : ∃ r, (n : Int) % 128 = r := ⟨_, rfl⟩
      rw [hq] at hm2 w3 HI HE HL HP
      have HE2 := Lib.hid (show sevensL n = [128 + r] ++ sevensL q by rw [HE.out, ← hr]; simp)
      rw [hr] at hm1 w1 w2 hw HM
      clear hlt ih hn hq hr HE
      go_enter Tryd.func48, Tryd.ntmps48
      go_wp2_with (first
        | (go_at_call 48; refine (HI.out _).mono ?_; rintro e w5 ⟨hb5, v5, rfl, ho5⟩; obtain ⟨g5, c5, rfl⟩ := ho5.form HP.out; have hos := HM.out.below hb5 (Nat.le_refl _); have hbw5 : Below w.heap.size w w5 := Below.trans' (show Below w.heap.size w _ from (by repeat (first | with_reducible exact Below.refl _ _ | with_reducible assumption | with_reducible refine below_dn ?_ _ | with_reducible refine Below.drew ?_ | with_reducible refine Below.alloc ?_ (by first | omega | (simp; done) | (simp; omega) | (simp [drew_size]; done) | (simp [drew_size]; omega)) _ | with_reducible refine Below.setCell ?_ (by first | omega | (simp; done) | (simp; omega) | (simp [drew_size]; done) | (simp [drew_size]; omega)) _))) hb5 (by first | omega | (simp; done) | (simp; omega) | (simp [drew_size]; done) | (simp [drew_size]; omega)); have hzw5 := hbw5.size)
        | (at_builtin; refine wpList_append_bytes rfl (.tmp 12) (.tmp 15) rfl w.heap.size _ [128 + r] rfl hos ⟨g5, 0, none⟩ _ c5 (sevensL q) rfl rfl (ho5.cells HP.out) (by simp) (by have := HL.out; omega) hzw5 ?_; intro v6 w6 own6 ht6 _; have hb6 := ht6.below hbw5 hzw5 (fun i hi => (hos.lt i hi).1)))
      go_ret
      rw [HE2.out]
      exact ⟨hb6, _, rfl, own6⟩
theorem zigs_any (n : Int) (w : World) (hn : -4611686018427387903 ≤ n) (hn2 : n < 4611686018427387904) : Calls Tryd.prog 49 #[.int .i64 n] w fun e w' => Below w.heap.size w w' ∧ ∃ v', e = .returned v' ∧ OwnBytes w.heap.size w' v' (zigsL n) := by
  by_cases hlt : n < 0
  · have hd : decide (n < 0) = true := by simp [hlt]
    obtain ⟨q, hq⟩ : ∃ q : Nat, -2 * n - 1 = q := ⟨(-2 * n - 1).toNat, by omega⟩
    have m1 : IntKind.i64.wrap (-n) = -n := IntWalk.i64_in _ (by omega)
    have m2 : IntKind.i64.wrap (-n - n) = -n - n := IntWalk.i64_in _ (by omega)
    have m3 : IntKind.i64.wrap (-n - n - 1) = (q : Int) := by rw [show -n - n - 1 = (q : Int) by omega]; exact IntWalk.i64_in _ (by omega)
    have HN := Lib.hid (sevens_any q w (by omega))
    have HE := Lib.hid (show zigsL n = sevensL q by unfold zigsL; rw [if_pos hlt, hq]; rfl)
    clear hlt hn hn2 hq
    go_enter Tryd.func49, Tryd.ntmps49
    go_wp2_with ((go_at_call 48; (with_reducible refine HN.out.mono ?_); rintro e w3 ⟨hb3, v3, rfl, ho3⟩))
    go_ret
    rw [HE.out]
    exact ⟨hb3, _, rfl, ho3⟩
  · have hd : decide (n < 0) = false := by simp; omega
    obtain ⟨q, hq⟩ : ∃ q : Nat, 2 * n = q := ⟨(2 * n).toNat, by omega⟩
    have m3 : IntKind.i64.wrap (n + n) = (q : Int) := by rw [show n + n = (q : Int) by omega]; exact IntWalk.i64_in _ (by omega)
    have HN := Lib.hid (sevens_any q w (by omega))
    have HE := Lib.hid (show zigsL n = sevensL q by unfold zigsL; rw [if_neg hlt, hq]; rfl)
    clear hlt hn hn2 hq
    go_enter Tryd.func49, Tryd.ntmps49
    go_wp2_with ((go_at_call 48; (with_reducible refine HN.out.mono ?_); rintro e w3 ⟨hb3, v3, rfl, ho3⟩))
    go_ret
    rw [HE.out]
    exact ⟨hb3, _, rfl, ho3⟩
end Go.Proofs.YtijcaejdgicbmaaDoor

/- The walks of file.sum and of the document's SealOf. -/
namespace Go.Proofs.YtijcaejdgicbmaaDoor
open Go.RowKit

theorem idx_bytes {ab aoff n cap j : Nat} {i : Int} (h : i = j) (hj : j < n) (w : World) : (Instr.indexAt 37 (.slice (some ⟨ab, aoff, none⟩) n cap) (.int .i64 i)).run Tryd.prog w = .ok (.pointer (some ⟨ab, aoff + j, none⟩)) w := by
  subst h
  go_simp
theorem byteSl_cell {w : World} {b off k : Nat} {xs : List Int} (h : ∀ i x, xs[i]? = some x → ∀ j u, (enB x)[j]? = some u → w.cell? ⟨b, off + i * 1 + j, none⟩ = some u) (hk : k < xs.length) : w.cell? ⟨b, off + k, none⟩ = some (.int .u8 xs[k]) := by
  have := h k xs[k] (by simp [hk]) 0 _ rfl
  simpa using this
theorem seal_join {x y : Int} (h0 : 0 ≤ x) (h1 : x < 65536) (h2 : 0 ≤ y) (h3 : y < 65536) : bits .or .i64 (y * 65536) x = y * 65536 + x := by
  rw [bits_join .i64 63 (by decide) (fun n h0 h1 => IntWalk.i64_in _ (by omega)) 16 (y * 65536) x (by omega) (by omega) (by omega) h0 (by omega) (by omega)]

set_option maxRecDepth 100000 in
set_option maxHeartbeats 1000000 in
theorem sum_any {v : Value} {xs : List Int} {w : World} (h : ByteSl w v xs) (hx : AllBytes xs) :
    Calls Tryd.prog 47 #[v] w fun e w' => e = .returned (.int .i64 ((sealXY xs).2 * 65536 + (sealXY xs).1)) ∧ w' = w := by
  obtain ⟨ao, cap, rfl, a1, a2, a3, a4, a5⟩ := h
  have HX := Lib.hid hx
  clear hx
  go_enter Tryd.func47, Tryd.ntmps47
  go_wp2_with fail
  go_loopg [3, 4, 9] xs.length (fun g xv yv i wr => ∃ (k : Nat) (x y : Int), k ≤ xs.length ∧ g = xs.length - k ∧ i = .int .i64 k ∧ xv = .int .i64 x ∧ yv = .int .i64 y ∧ Hid (sealXY (xs.take k) = (x, y)) ∧ wr = w)
  case atStart => exact ⟨0, 1, 0, Nat.zero_le _, rfl, rfl, rfl, rfl, Lib.hid rfl, rfl⟩
  case round =>
    obtain ⟨k, x, y, hk, rfl, rfl, rfl, rfl, HS, hwr⟩ := hrel
    obtain rfl := hwr.symm
    have hr := sealXY_range (xs.take k)
    rw [HS.out] at hr
    obtain ⟨r1, r2, r3, r4⟩ := hr
    simp only at r1 r2 r3 r4
    by_cases hlt : k < xs.length
    · obtain ⟨ab, aoff, rfl, abb, ac⟩ := a5 (by omega)
      have e0 := byteSl_cell ac hlt
      obtain ⟨c, hc⟩ : ∃ c, xs[k] = c := ⟨_, rfl⟩
      rw [hc] at e0
      have hcr := HX.out c (by rw [← hc]; exact List.getElem_mem hlt)
      obtain ⟨X, hX⟩ : ∃ X, (x + c) % 65521 = X := ⟨_, rfl⟩
      obtain ⟨Y, hY⟩ : ∃ Y, (y + X) % 65521 = Y := ⟨_, rfl⟩
      have HN := Lib.hid (show sealXY (xs.take (k + 1)) = (X, Y) by rw [sealXY_step hlt, HS.out, hc]; simp [sealStep, hX, hY])
      have hix := fun w' => idx_bytes (ab := ab) (aoff := aoff) (n := xs.length) (cap := cap) (show (k : Int) = ((k : Nat) : Int) by rfl) hlt w'
      have c1 : IntKind.i64.wrap c = c := IntWalk.i64_in _ (by omega)
      have c2 : IntKind.i64.wrap (x + c) = x + c := IntWalk.i64_in _ (by omega)
      have c3 : (x + c).tmod 65521 = X := by rw [Int.tmod_eq_emod_of_nonneg (by omega)]; exact hX
      have c4 : IntKind.i64.wrap X = X := IntWalk.i64_in _ (by omega)
      have c5 : IntKind.i64.wrap (y + X) = y + X := IntWalk.i64_in _ (by omega)
      have c6 : (y + X).tmod 65521 = Y := by rw [Int.tmod_eq_emod_of_nonneg (by omega)]; exact hY
      have c7 : IntKind.i64.wrap Y = Y := IntWalk.i64_in _ (by omega)
      clear ac a5 hc hX hY
      go_wp2
      go_roundg (xs.length - (k + 1))
      case measure => omega
      case rel => exact ⟨k + 1, X, Y, by omega, rfl, by go_num, rfl, rfl, HN, rfl⟩
    · have HE := Lib.hid (show sealXY xs = (x, y) by rw [← HS.out, List.take_of_length_le (by omega)])
      have c1 : IntKind.i64.wrap (y * 65536) = y * 65536 := IntWalk.i64_in _ (by omega)
      have c2 : IntKind.i64.wrap (y * 2 ^ 16) = y * 65536 := c1
      have c3 := seal_join (x := x) (y := y) r1 (by omega) r3 (by omega)
      go_wp2
      go_ret
      rw [HE.out]
      exact ⟨rfl, rfl⟩

set_option maxRecDepth 100000 in
set_option maxHeartbeats 1000000 in
theorem sealOf_any {v : Value} {xs : List Int} {w : World} (h : ByteSl w v xs) (hx : AllBytes xs) :
    Calls Tryd.prog 50 #[v] w fun e w' => Below w.heap.size w w' ∧ ∃ v', e = .returned v' ∧ OwnBytes w.heap.size w' v' (sealL xs) := by
  obtain ⟨ao, cap, rfl, a1, a2, a3, a4, a5⟩ := h
  have HX := Lib.hid hx
  clear hx
  go_enter Tryd.func50, Tryd.ntmps50
  go_wp2_with fail
  go_loopg [3, 4, 5] xs.length (fun g xv yv i wr => ∃ (k : Nat) (x y : Int), k ≤ xs.length ∧ g = xs.length - k ∧ i = .int .i64 k ∧ xv = .int .i64 x ∧ yv = .int .i64 y ∧ Hid (sealXY (xs.take k) = (x, y)) ∧ wr = w)
  case atStart => exact ⟨0, 1, 0, Nat.zero_le _, rfl, rfl, rfl, rfl, Lib.hid rfl, rfl⟩
  case round =>
    obtain ⟨k, x, y, hk, rfl, rfl, rfl, rfl, HS, hwr⟩ := hrel
    obtain rfl := hwr.symm
    have hr := sealXY_range (xs.take k)
    rw [HS.out] at hr
    obtain ⟨r1, r2, r3, r4⟩ := hr
    simp only at r1 r2 r3 r4
    by_cases hlt : k < xs.length
    · obtain ⟨ab, aoff, rfl, abb, ac⟩ := a5 (by omega)
      have e0 := byteSl_cell ac hlt
      obtain ⟨c, hc⟩ : ∃ c, xs[k] = c := ⟨_, rfl⟩
      rw [hc] at e0
      have hcr := HX.out c (by rw [← hc]; exact List.getElem_mem hlt)
      obtain ⟨X, hX⟩ : ∃ X, (x + c) % 65521 = X := ⟨_, rfl⟩
      obtain ⟨Y, hY⟩ : ∃ Y, (X + y) % 65521 = Y := ⟨_, rfl⟩
      have HN := Lib.hid (show sealXY (xs.take (k + 1)) = (X, Y) by rw [sealXY_step hlt, HS.out, hc]; simp only [sealStep, hX]; rw [Int.add_comm y X, hY])
      have hix := fun w' => idx_bytes (ab := ab) (aoff := aoff) (n := xs.length) (cap := cap) (show (k : Int) = ((k : Nat) : Int) by rfl) hlt w'
      have c1 : IntKind.i64.wrap c = c := IntWalk.i64_in _ (by omega)
      have c2 : IntKind.i64.wrap (x + c) = x + c := IntWalk.i64_in _ (by omega)
      have c3 : (x + c).tmod 65521 = X := by rw [Int.tmod_eq_emod_of_nonneg (by omega)]; exact hX
      have c4 : IntKind.i64.wrap X = X := IntWalk.i64_in _ (by omega)
      have c5 : IntKind.i64.wrap (X + y) = X + y := IntWalk.i64_in _ (by omega)
      have c6 : (X + y).tmod 65521 = Y := by rw [Int.tmod_eq_emod_of_nonneg (by omega)]; exact hY
      have c7 : IntKind.i64.wrap Y = Y := IntWalk.i64_in _ (by omega)
      clear ac a5 hc hX hY
      go_wp2
      go_roundg (xs.length - (k + 1))
      case measure => omega
      case rel => exact ⟨k + 1, X, Y, by omega, rfl, by go_num, rfl, rfl, HN, rfl⟩
    · have hE : sealXY xs = (x, y) := by rw [← HS.out, List.take_of_length_le (by omega)]
      have HE := Lib.hid (show sealL xs = [y / 256, y % 256, x / 256, x % 256] by simp [sealL, hE])
      have c1 : y.tdiv 256 = y / 256 := Int.tdiv_eq_ediv_of_nonneg (by omega)
      have c2 : y.tmod 256 = y % 256 := Int.tmod_eq_emod_of_nonneg (by omega)
      have c3 : x.tdiv 256 = x / 256 := Int.tdiv_eq_ediv_of_nonneg (by omega)
      have c4 : x.tmod 256 = x % 256 := Int.tmod_eq_emod_of_nonneg (by omega)
      obtain ⟨A, hA⟩ : ∃ A, y / 256 = A := ⟨_, rfl⟩
      obtain ⟨B, hB⟩ : ∃ B, y % 256 = B := ⟨_, rfl⟩
      obtain ⟨C, hC⟩ : ∃ C, x / 256 = C := ⟨_, rfl⟩
      obtain ⟨D, hD⟩ : ∃ D, x % 256 = D := ⟨_, rfl⟩
      rw [hA] at c1 HE
      rw [hB] at c2 HE
      rw [hC] at c3 HE
      rw [hD] at c4 HE
      have d1 : IntKind.i64.wrap A = A := IntWalk.i64_in _ (by omega)
      have d2 : IntKind.i64.wrap B = B := IntWalk.i64_in _ (by omega)
      have d3 : IntKind.i64.wrap C = C := IntWalk.i64_in _ (by omega)
      have d4 : IntKind.i64.wrap D = D := IntWalk.i64_in _ (by omega)
      have u1 : IntKind.u8.wrap A = A := u8_wrap (by omega) (by omega)
      have u2 : IntKind.u8.wrap B = B := u8_wrap (by omega) (by omega)
      have u3 : IntKind.u8.wrap C = C := u8_wrap (by omega) (by omega)
      have u4 : IntKind.u8.wrap D = D := u8_wrap (by omega) (by omega)
      have HM := Lib.hid (OwnBytes.made (B := w.heap.size) (w := w) (C := #[.int .u8 A, .int .u8 B, .int .u8 C, .int .u8 D]) (ys := [A, B, C, D]) (n := 4) rfl rfl (by simp) (Nat.le_refl _))
      clear hE hA hB hC hD
      go_wp2
      go_ret
      rw [HE.out]
      exact ⟨(by repeat (first | with_reducible exact Below.refl _ _ | with_reducible assumption | with_reducible refine below_dn ?_ _ | with_reducible refine Below.drew ?_ | with_reducible refine Below.alloc ?_ (by first | omega | (simp; done) | (simp; omega) | (simp [drew_size]; done) | (simp [drew_size]; omega)) _ | with_reducible refine Below.setCell ?_ (by first | omega | (simp; done) | (simp; omega) | (simp [drew_size]; done) | (simp [drew_size]; omega)) _)), _, rfl, HM.out⟩
end Go.Proofs.YtijcaejdgicbmaaDoor
