/- A base of which old points are gone: plain. -/
import Derived.Test.YtalnnghnipoogaaDoorKE
import Derived.Test.YtalnnghnipoogaaDoorEX
namespace Go.Proofs.YtalnnghnipoogaaDoor

theorem exp_kn {b c : Ba} {L : List Ent} {N : Nat} {t : Int} (h : Kn b L N) (hc : baseMay c = true) (hb : bookR c = some (expL b t)) : Kn c (L.filter (young t)) N := by
  have he : expL b t = L.filter (young t) := by unfold expL; rw [h.book]
  refine ⟨hc, by rw [hb, he], ?_⟩
  have := allC_filter h.goods.2.1.goods (young t)
  have := h.allC
  omega
theorem ptsT_young {L : List Ent} {p t a z : Int} (ha : 0 ≤ a) (hz : z ≤ 1048576) (ht : a ≤ t) : ptsT (L.filter (young t)) p a z = ptsT L p t z := by
  unfold ptsT
  rw [List.filter_filter]
  congr 1
  refine List.filter_congr fun e _ => ?_
  unfold inRange young
  rw [Bool.eq_iff_iff]
  simp only [Bool.and_eq_true, decide_eq_true_eq]
  omega
theorem exp_total {pts : List Pnt} {b c : Ba} {s : ByteArray} {t : Int} (h : KB pts b) (hl : pts.length ≤ 100000) (hs : s ∈ b.names) (hp : ∀ p ∈ pts, PtOk p) (h0 : 0 < t) (h1 : t ≤ 1048575)
    (hn : c.names = b.names) (hc : baseMay c = true) (hb : bookR c = some (expL b t)) :
    (totalE c s 0 1048575 = 0 ∧ totalR c s 0 1048575 = knownF pts s t 1048575) ∧ (totalE c s 0 (t - 1) = 0 ∧ totalR c s 0 (t - 1) = Roll.zero) := by
  have hk := exp_kn h.st.kn hc hb
  have hpl : 0 ≤ placeI c.names s := by rw [hn]; exact place_nonneg.2 hs
  obtain ⟨e1, e2⟩ := hk.total (by omega) hpl (show rowsOk 0 1048575 by unfold rowsOk; omega)
  obtain ⟨e3, e4⟩ := hk.total (by omega) hpl (show rowsOk 0 (t - 1) by unfold rowsOk; omega)
  refine ⟨⟨e1, ?_⟩, e3, ?_⟩
  · rw [e2, hn, ptsT_young (by decide) (by decide) (by omega)]
    exact ptsT_known h hs hp (by omega) (by decide)
  · rw [e4, ptsT_young (by decide) (by omega) (by omega)]
    exact ptsT_none (by omega)
end Go.Proofs.YtalnnghnipoogaaDoor
