/- Texts of mine that come as one: Gen Open GenLaid. -/
import Derived.ProofKit
import Derived.SizedLaws
import Derived.Below
import Derived.Carry
import Derived.Test.YtalnnghnipoogaaDoorRows
import Derived.Test.YtalnnghnipoogaaDoorPA
import Derived.Lib.SmallJoins
import Derived.Test.YtalnnghnipoogaaDoorTie
import Derived.LaidMore
import Derived.MakeChecks
import Derived.OpenShut
import Derived.Stop.Joined
import Derived.SevenTiedAt
import Derived.Handed
import Derived.LaidHandle
/- A law's row out of its contract, whatever its parameters: the call returns true and leaves all that was there as it was. No condition. -/
namespace Go.Proofs.YtalnnghnipoogaaDoor
open Go.ChangeShapes Go.WideShapes Go.ChangeAt Go.RowKit

theorem trodAll_below {H : Type} {enc : TypeId × Value → H} {P : Program} (hl : laidOutB P = true) {W W' : World} (hb : Below W.heap.size W W') :
    ∀ {ts : List TypeId} {vs : List Value} {ds : List (DataW H)} {ps : List MemPlace}, (∀ t ∈ ts, P.readableRec t = true ∧ t < P.types.size) →
      DataW.TrodAll enc P W 0 (fun _ => true) true ts vs ds ps → (∀ x ∈ ps, x.block < W.heap.size) →
      DataW.TrodAll enc P W' 0 (fun b => decide (b < W.heap.size)) true ts vs ds ps := by
  intro ts
  induction ts with
  | nil => intro vs ds ps _ h _; obtain ⟨rfl, rfl, rfl⟩ := trodAll_nil h; exact trodAll_mk0
  | cons t ts ih =>
    intro vs ds ps ht h hlt
    obtain ⟨v, vs', d, ds', p, q, rfl, rfl, rfl, h1, h2⟩ := trodAll_cons h
    refine ⟨p, q, Below.trod hl (ht t (by simp)).1 (ht t (by simp)).2 h1 hb (fun x hx => hlt x (by simp [hx])), ?_, rfl⟩
    exact ih (fun t' ht' => ht t' (by simp [ht'])) h2 (fun x hx => hlt x (by simp [hx]))

end Go.Proofs.YtalnnghnipoogaaDoor

/- Arguments read as data: what their cells hold. -/
namespace Go.Proofs.YtalnnghnipoogaaDoor
open Go.ChangeShapes Go.WideShapes Go.ChangeAt Go.RowKit

theorem Tryd.own : ownKnob Tryd.prog.godebug = none := by kernel_rfl
theorem Tryd.laidOut : laidOutB Tryd.prog = true := by kernel_rfl
theorem Tryd.cellsInt : Tryd.prog.cellsOf 3 = 1 := by kernel_rfl
section
variable {H : Type} {enc : TypeId × Value → H} {w : World} {base : Nat} {sp : Nat → Bool} {held : Bool}

theorem take_one {α : Type} {cs : List α} {i : Nat} {v : α} (h : (cs.drop i).take 1 = [v]) : cs[i]? = some v := by
  have := congrArg (fun l => l[0]?) h
  simpa [List.getElem?_take] using this

theorem wf_int {n : Int} (hw : (Lit.int .i64 n).wf = true) : -9223372036854775808 ≤ n ∧ n ≤ 9223372036854775807 := by
  simpa [Lit.wf, IntKind.min, IntKind.max, IntKind.signed, IntKind.bits] using hw

theorem read_int_at {fuel : Nat} {cs : List Value} {i : Nat} {x : DataW H × List MemPlace} (h : DataW.trod enc Tryd.prog w base sp held fuel 3 ((cs.drop i).take (Tryd.prog.cellsOf 3)) = some x) :
    ∃ n, cs[i]? = some (.int .i64 n) ∧ -9223372036854775808 ≤ n ∧ n ≤ 9223372036854775807 := by
  obtain ⟨n, e, _, hw⟩ := DataW.trod_int Tryd.underlying3 h
  rw [Tryd.cellsInt] at e
  exact ⟨n, take_one e, wf_int hw⟩

def Roll.cells (r : Roll) : List Value := [.int .i64 r.c, .int .i64 r.s, .int .i64 r.mi, .int .i64 r.ma, .int .i64 r.t, .int .i64 r.l]

set_option maxRecDepth 100000 in
theorem open_int' {r : Reach} {b0 : Nat} {v : Value} {d : DataW H} {p : List MemPlace} (hv : Value.okWide Tryd.prog w r b0 3 v) (h : DataW.Trod enc Tryd.prog w base sp held 3 v d p) :
    ∃ n, v = .int .i64 n ∧ -9223372036854775808 ≤ n ∧ n ≤ 9223372036854775807 := by
  obtain ⟨n, rfl, _, _, hw⟩ := open_int Tryd.underlying3 hv h
  exact ⟨n, rfl, wf_int hw⟩
end
end Go.Proofs.YtalnnghnipoogaaDoor

/- A law's row out of its contract, where the row lists a package-level variable with what it holds; the table base.sizes. -/
namespace Go.Proofs.YtalnnghnipoogaaDoor
open Go.ChangeShapes Go.WideShapes Go.ChangeAt Go.RowKit

theorem lifted_of_laid {H : Type} {enc : TypeId × Value → H} {C : Go.Checked} {os : Os} {f : FuncId} {fn : Func} {s : ChangeSpec} {tb : TypeId} {L : List (String × DataW Unit)}
    (own : ownKnob C.prog.godebug = none) (started : os.Started) (noInit : C.prog.inits.idxOf? f = none) (hfn : C.prog.funcs[f]? = some fn)
    (witness : ∃ (w : World) (tape : Tape) (i : Input), w.os = os ∧ (w.forCall tape i).Shaped C.prog ∧ i.vars = [] ∧ Input.okWide C.prog (w.forCall tape i) .any w.heap.size f i ∧
      ((s.pre enc C.prog fn [] false (w.forCall tape i).memory i.args ∧ laidMetH C.prog L (w.forCall tape i).memory) ∧ sizedMet enc C.prog fn (OpenSpec.ofChange s) false (w.forCall tape i).memory i.args) ∧ ({} : Assume).holds C.prog (lone (Frame.enter C.prog f i.args .normal) [] (w.forCall tape i)))
    (hl : laidOutB C.prog = true) (hread : ∀ t ∈ fn.params.toList, C.prog.readableRec t = true ∧ t < C.prog.types.size)
    (hvars : s.vars = []) (hres : fn.resultTypes = #[tb]) (htb : C.prog.underlying tb = some .bool)
    (hspec : ∀ ds : List (DataW H), ds.length = fn.params.size → s.fn H (ds ++ []) = { results := [.lit (.bool true)], args := ds })
    (contract : ∀ (W : World) (base : Nat) (args : Array Value) (ds : List (DataW H)) (ps : List MemPlace),
      (∀ (j : Nat) t v, fn.params[j]? = some t → args[j]? = some v → Value.okWide C.prog W .any base t v) →
      DataW.TrodAll enc C.prog W 0 (fun _ => true) true fn.params.toList args.toList ds ps →
      (∀ x ∈ ps, x.block < W.heap.size) →
      (DataW.weightsEach C.prog fn.params.toList ds).all (· ≤ reachBytes) = true → laidMetH C.prog L W →
      Calls C.prog f args W fun e W' => e = .returned (.bool true) ∧ Below W.heap.size W W') :
    ReturnsInHanded {} C os f .any (fun w args => (s.pre enc C.prog fn [] false w args ∧ laidMetH C.prog L w) ∧ sizedMet enc C.prog fn (OpenSpec.ofChange s) false w args) (s.post enc C.prog fn false true false false) := by
  refine returnsInHanded_of_change_and (C := C) (X := fun w _ => laidMetH C.prog L w) (fun _ _ _ hh h => h.of_heap hh) own started noInit hfn witness ?_
  intro W base args ds gs before hval hW _ hsz hL _
  have hW' := hW
  obtain ⟨p, q, hA, hV, rfl, hfz, hnd⟩ := hW
  rw [hvars] at hV
  obtain ⟨rfl, rfl⟩ := trodVars_none hV
  have hlt : ∀ x ∈ p, x.block < W.heap.size := fun x hx => hW'.lt x (by simp [hx])
  have hvt : s.plain.varTypes C.prog = [] := by simp [ChangeSpec.plain, DataSpec.varTypes, hvars]
  rw [hvt] at hsz
  simp only [List.append_nil] at hsz
  refine (contract W base args ds p hval hA hlt hsz hL).mono fun e W' ⟨he, hb⟩ => ?_
  subst he
  have hlen : ds.length = fn.params.size := by
    have : ∀ {ts : List TypeId} {vs : List Value} {ds : List (DataW H)} {ps : List MemPlace}, DataW.TrodAll enc C.prog W 0 (fun _ => true) true ts vs ds ps → ds.length = ts.length := by
      intro ts
      induction ts with
      | nil => intro vs ds ps h; obtain ⟨rfl, rfl, rfl⟩ := trodAll_nil h; rfl
      | cons t ts ih =>
        intro vs ds ps h
        obtain ⟨v, vs', d, ds', p, q, rfl, rfl, rfl, h1, h2⟩ := trodAll_cons h
        simp [ih h2]
    simpa using this hA
  refine ⟨_, rfl, ds, [], p ++ [], [], p, [], hW', ?_, ?_, ?_, hb.frame _, fun h => by cases h⟩
  · rw [hspec ds hlen, hres]
    exact trodAll_mk1 (shut_bool htb true)
  · rw [hspec ds hlen]
    exact trodAll_below hl hb hread hA hlt
  · rw [hspec ds hlen, hvars]
    rfl

structure SizesAt (w : World) : Prop where
  lt : 0 < w.heap.size
  c0 : w.cell? ⟨0, 0, none⟩ = some (.int .i64 1)
  c1 : w.cell? ⟨0, 1, none⟩ = some (.int .i64 60)
  c2 : w.cell? ⟨0, 2, none⟩ = some (.int .i64 3600)
theorem SizesAt.below {w w' : World} (h : SizesAt w) (hb : Below w.heap.size w w') : SizesAt w' :=
  ⟨Nat.lt_of_lt_of_le h.lt hb.size, (hb.cell (p := ⟨_, _, none⟩) h.lt).trans h.c0, (hb.cell (p := ⟨_, _, none⟩) h.lt).trans h.c1, (hb.cell (p := ⟨_, _, none⟩) h.lt).trans h.c2⟩
theorem idx_sizes0 (w : World) : (Instr.index 81 (.agg #[.int .i64 1, .int .i64 60, .int .i64 3600]) (.int .i64 0)).run Tryd.prog w = .ok (.int .i64 1) w := by
  unfold Instr.index
  simp [go_sem]
theorem idx_sizes1 (w : World) : (Instr.index 81 (.agg #[.int .i64 1, .int .i64 60, .int .i64 3600]) (.int .i64 1)).run Tryd.prog w = .ok (.int .i64 60) w := by
  unfold Instr.index
  simp [go_sem]
theorem idx_sizes2 (w : World) : (Instr.index 81 (.agg #[.int .i64 1, .int .i64 60, .int .i64 3600]) (.int .i64 2)).run Tryd.prog w = .ok (.int .i64 3600) w := by
  unfold Instr.index
  simp [go_sem]
abbrev laidL : List (String × DataW Unit) := [("winnower/base.sizes", Rows.laid_winnower_base_sizes)]
theorem Tryd.gSizes : Tryd.prog.globalNamed "winnower/base.sizes" = some 0 := by kernel_rfl
theorem Tryd.tSizes : (Tryd.prog.globals[0]?).map (·.type) = some 81 := by kernel_rfl
theorem Tryd.cellsSizes : Tryd.prog.cellsOf 81 = 3 := by kernel_rfl

theorem sizes_of_laid {W : World} (h : laidMetH Tryd.prog laidL W) : SizesAt W := by
  rw [MakeChecks.laidMetH_plain _ _ _ (by kernel_rfl)] at h
  obtain ⟨ps, ⟨g0, t0, cs0, f0, p0, q0, hg0, ht0, hv0, hd0, _, _⟩, _⟩ := h
  obtain rfl := Option.some.inj (Tryd.gSizes.symm.trans hg0)
  obtain rfl := Option.some.inj (Tryd.tSizes.symm.trans ht0)
  obtain ⟨xs, m1, rfl, hx1, hlen, hn3, hel⟩ := DataW.trod_array Tryd.underlying81 hd0
  rw [Tryd.cellsSizes] at hlen
  simp only [Prod.mk.injEq] at hx1
  have cells : ∀ (i : Nat) (n : Int), i < 3 → (xs.map (·.1))[i]? = some (.lit (.int .i64 n)) → cs0[i]? = some (.int .i64 n) := by
    intro i n hi hn
    have hi' : i < xs.length := by omega
    have h1 := hel i hi
    rw [List.getElem?_eq_getElem hi'] at h1
    obtain ⟨k, e1, e2, _⟩ := DataW.trod_int Tryd.underlying3 h1
    rw [Tryd.cellsInt, Nat.mul_one] at e1
    have h2 := take_one e1
    rw [List.getElem?_map, List.getElem?_eq_getElem hi'] at hn
    simp only [Option.map_some, Option.some.injEq] at hn
    have e3 := congrArg (·.1) e2
    simp only at e3
    rw [hn] at e3
    obtain rfl : k = n := by simpa using e3.symm
    simpa using h2
  have hm : xs.map (·.1) = [.lit (.int .i64 1), .lit (.int .i64 60), .lit (.int .i64 3600)] := (DataW.agg.inj (show DataW.agg [.lit (.int .i64 1), .lit (.int .i64 60), .lit (.int .i64 3600)] = DataW.agg (xs.map (·.1)) from hx1.1)).symm
  have hc : ∀ (i : Nat) (n : Int), i < 3 → (xs.map (·.1))[i]? = some (.lit (.int .i64 n)) → W.cell? ⟨0, i, none⟩ = some (.int .i64 n) := fun i n hi hn =>
    (World.var?_cell Tryd.gSizes hv0 i).trans (cells i n hi hn)
  have c0 := hc 0 1 (by omega) (by rw [hm]; rfl)
  refine ⟨?_, c0, hc 1 60 (by omega) (by rw [hm]; rfl), hc 2 3600 (by omega) (by rw [hm]; rfl)⟩
  by_cases hb : 0 < W.heap.size
  · exact hb
  · simp [World.cell?, Array.getElem?_eq_none (Nat.le_of_not_lt hb)] at c0
theorem door_met (os : Os) (args : Array Value) : laidMetH Tryd.prog laidL ((World.doorLaid Tryd.prog 14 os).forCall (fun _ _ => 0) ⟨#[], args, []⟩).memory :=
  laidMetH_of_parts3 (fuel := 8) (laidMet_of_run' 8 (by kernel_rfl) (by kernel_rfl)) (by kernel_rfl) (by kernel_rfl)
end Go.Proofs.YtalnnghnipoogaaDoor
