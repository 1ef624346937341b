/- The walk of the program's walker: a node that is not there, was seen, or lies too deep. -/
import Derived.Test.YtijcaejdgicbmaaDoorPA
import Derived.Test.YtijcaejdgicbmaaDoorSeen
import Derived.Test.YtijcaejdgicbmaaDoorRise
import Derived.Test.YtijcaejdgicbmaaDoorHT
namespace Go.Proofs.YtijcaejdgicbmaaDoor
open Go.RowKit

/-- The walker: its tree, the map of seen nodes, the depth of leaves. -/
structure WalkerAt (w : World) (pb mb : Nat) (nv : Value) (root : Int) (S : List Int) (D : Int) : Prop where
  lt : pb < w.heap.size
  ne : pb ≠ mb
  c0 : w.cell? ⟨pb, 0, none⟩ = some nv
  c1 : w.cell? ⟨pb, 1, none⟩ = some (.int .i64 root)
  c2 : w.cell? ⟨pb, 2, none⟩ = some (.map (some mb))
  c3 : w.cell? ⟨pb, 3, none⟩ = some (.int .i64 D)
  fr : ∀ o, w.frozen? ⟨pb, o, none⟩ = false
  set : SetAt w mb S
def Own2 (pb mb : Nat) (b : Nat) : Prop := b = pb ∨ b = mb
theorem WalkerAt.turn {w w' : World} {pb mb : Nat} {nv : Value} {root : Int} {S : List Int} {D : Int} (h : WalkerAt w pb mb nv root S D) {X : Nat → Prop} (ht : Turn X w w') (hp : ¬ X pb) (hm : ¬ X mb) : WalkerAt w' pb mb nv root S D :=
  ⟨Nat.lt_of_lt_of_le h.lt ht.size, h.ne, (ht.cell h.lt hp 0).trans h.c0, (ht.cell h.lt hp 1).trans h.c1, (ht.cell h.lt hp 2).trans h.c2, (ht.cell h.lt hp 3).trans h.c3, fun o => (ht.frozen h.lt hp o).trans (h.fr o), h.set.turn ht hm⟩
/-- What a call of 'node' leaves. -/
def NodePost (pb mb : Nat) (nv : Value) (root : Int) (r : Option (List Int × Int)) (w : World) (e : Ending) (w' : World) : Prop :=
  Turn (Own2 pb mb) w w' ∧ (match r with | none => e = .returned (.bool false) | some (S', D') => e = .returned (.bool true) ∧ WalkerAt w' pb mb nv root S' D')
theorem npost_none {pb mb : Nat} {nv : Value} {root : Int} {w w' : World} {e : Ending} (ht : Turn (Own2 pb mb) w w') (he : e = .returned (.bool false)) : NodePost pb mb nv root none w e w' := ⟨ht, he⟩
theorem npost_some {pb mb : Nat} {nv : Value} {root : Int} {w w' : World} {e : Ending} {S : List Int} {D : Int} (ht : Turn (Own2 pb mb) w w') (he : e = .returned (.bool true)) (hw : WalkerAt w' pb mb nv root S D) : NodePost pb mb nv root (some (S, D)) w e w' := ⟨ht, he, hw⟩

set_option maxRecDepth 100000 in
set_option maxHeartbeats 1000000 in
theorem node_bad {t : Tr} {nv : Value} {w0 : World} (h0 : NodesAt w0 nv t.nodes) {f : Nat} {n lo hi d : Int} {S : List Int} {D : Int} {w : World} {pb mb : Nat} (hw : WalkerAt w pb mb nv t.root S D) (hd : d = 13 - f) (hf : f ≤ 12) (hbad : f = 0 ∨ t.at? n = none ∨ n ∈ S) :
    Calls Tryd.prog 86 #[.pointer (some ⟨pb, 0, none⟩), .int .i64 n, .int .i64 lo, .int .i64 hi, .int .i64 d] w (NodePost pb mb nv t.root (nodeS t f n lo hi (S, D)) w) := by
  have hr : nodeS t f n lo hi (S, D) = none := by
    cases f with
    | zero => rfl
    | succ f =>
      rcases hbad with h | h | h
      · cases h
      · exact nodeS_none h
      · cases hx : t.at? n with
        | none => exact nodeS_none hx
        | some x => exact nodeS_seen hx h
  rw [hr]
  obtain ⟨⟨ao, c, rfl⟩, hlen⟩ := h0.len
  obtain ⟨lt, ne, c0, c1, c2, c3, fr, hset⟩ := hw
  by_cases hin : t.at? n = none
  · have hn := at?_none hin
    clear hr hbad hd hin h0 fr hset
    by_cases hn0 : n < 0
    · clear hn
      go_enter Tryd.func86, Tryd.ntmps86
      go_wp2
      go_ret
      exact npost_none (Turn.refl _ _) rfl
    · have hn1 : (t.nodes.length : Int) ≤ n := by omega
      clear hn
      go_enter Tryd.func86, Tryd.ntmps86
      go_wp2
      go_ret
      exact npost_none (Turn.refl _ _) rfl
  · obtain ⟨x, hx⟩ := Option.ne_none_iff_exists'.1 hin
    obtain ⟨hn0, hn1, -⟩ := at?_get hx
    have hn2 : n < (t.nodes.length : Int) := by omega
    have hlook := hset.look (n := n) (by unfold i64; omega)
    by_cases hs : n ∈ S
    · have hs' : decide (n ∈ S) = true := by simp [hs]
      rw [hs'] at hlook
      clear hr hbad hd hin h0 fr hset hs hs' hx
      go_enter Tryd.func86, Tryd.ntmps86
      go_wp2
      go_ret
      exact npost_none (Turn.refl _ _) rfl
    · obtain rfl : f = 0 := by rcases hbad with h | h | h; exact h; exact absurd h hin; exact absurd h hs
      have hs' : decide (n ∈ S) = false := by simp [hs]
      rw [hs'] at hlook
      have d2 : (12 : Int) < d := by omega
      clear hr hbad hd hin h0 fr hset hs hs' hx
      go_enter Tryd.func86, Tryd.ntmps86
      go_wp2
      go_ret
      exact npost_none (Turn.refl _ _) rfl
end Go.Proofs.YtijcaejdgicbmaaDoor
