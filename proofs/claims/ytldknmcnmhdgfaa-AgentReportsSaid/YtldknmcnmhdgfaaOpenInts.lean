/- How an argument that is a slice of integers is opened: plain lemmas on the reading of a start, over any program. -/
import Derived.Test.YtldknmcnmhdgfaaOpen
namespace Go.Proofs.Ytldknmcnmhdgfaa
open Go.ChangeShapes Go.WideShapes Go.Deep Go.RowKit

/-- A slice of integers, as it came in. -/
def IsInts (k : IntKind) (w : World) (v : Value) (f : Nat → Int) : Prop :=
  ∃ a len cap, v = .slice a len cap ∧ len ≤ cap ∧ cap ≤ 9223372036854775807 ∧ (0 < len → ∃ b off, a = some ⟨b, off, none⟩ ∧ b < w.heap.size ∧ ∀ i, i < len → w.cell? ⟨b, off + i, none⟩ = some (.int k (f i)) ∧ (Lit.int k (f i)).wf = true)

theorem open_row {H : Type} {enc : TypeId × Value → H} {P : Program} {w : World} {r : Reach} {b0 : Nat} {t e : TypeId} {k : IntKind} {v : Value} {d : DataW H} {p : List MemPlace} (ht : P.underlying t = some (.slice e)) (he : P.underlying e = some (.int k)) (hC : P.cellsOf e = 1)
    (hv : Value.okWide P w r b0 t v) (h : DataW.Trod enc P w 0 (fun _ => true) true t v d p) : ∃ f, IsInts k w v f := by
  obtain ⟨a, len, cap, rfl⟩ := okWide_slice ht hv
  obtain ⟨fuel, hf⟩ := h
  rcases open_slice1 ht hC hf with ⟨hcs, _⟩ | ⟨x, l, c, m, n, V, D, Pl, hcs, _, hl, hm, hmm, _, hi⟩
  · simp [Value.cells] at hcs
    obtain ⟨rfl, rfl, rfl⟩ := hcs
    exact ⟨fun _ => 0, _, _, _, rfl, Nat.le_refl _, by omega, fun h => absurd h (by omega)⟩
  · simp [Value.cells] at hcs
    obtain ⟨rfl, rfl, rfl⟩ := hcs
    simp only [if_true] at hmm
    subst hmm
    refine ⟨fun i => intOf (V i), _, _, _, rfl, hl, by unfold maxLen at hm; exact hm, fun hpos => ?_⟩
    have c0 := (hi 0 (by omega)).1
    have hspot : x.spot = none := by
      have := World.cell?_spot c0
      simpa [Addr.add] using this
    obtain ⟨b, off, spot⟩ := x
    simp only at hspot
    subst hspot
    have hb : b < w.heap.size := by
      have := cell_lt c0
      simpa [Addr.add] using this
    have hadd : ∀ k : Nat, (Addr.add ⟨b, off, none⟩ k) = ⟨b, off + k, none⟩ := by
      intro k
      unfold Addr.add
      split
      · simp_all
      · rfl
    refine ⟨b, off, rfl, hb, fun i hil => ?_⟩
    obtain ⟨hc, ht'⟩ := hi i (by omega)
    obtain ⟨e0, f0⟩ := trod_int' he ht'
    rw [hadd, e0] at hc
    exact ⟨hc, f0⟩
end Go.Proofs.Ytldknmcnmhdgfaa
