/- How slices of structs that lie in a struct are opened: plain lemmas on the reading of a start, over any program. -/
import Derived.Test.YtnokojobiaddmaaOpen2
namespace Go.Proofs.Ytnokojobiaddmaa
open Go.ChangeShapes Go.WideShapes Go.Deep Go.RowKit

section
variable {H : Type} {enc : TypeId × Value → H} {P : Program} {w : World}

/-- The fields of a struct, each read from its own cells. -/
theorem trod_fields {t : TypeId} {fs : Array Field} {m : Nat} {cs : List Value} {x : DataW H × List MemPlace} (ht : P.underlying t = some (.struct fs)) (h : DataW.trod enc P w 0 (fun _ => true) true m t cs = some x) :
    cs.length = P.cellsOf t ∧ ∃ n, ∀ (j : Nat) (f : Field), fs[j]? = some f → ∃ y, DataW.trod enc P w 0 (fun _ => true) true n f.type ((cs.drop f.offset).take (P.cellsOf f.type)) = some y := by
  obtain ⟨xs, n, _, _, hc, hlen, hg⟩ := DataW.trod_struct ht h
  refine ⟨hc, n, fun j f hj => ?_⟩
  have hjl : j < fs.size := (Array.getElem?_eq_some_iff.1 hj).1
  have h1 := hg j f hj
  rw [List.getElem?_eq_getElem (show j < xs.length by omega)] at h1
  exact ⟨_, h1⟩

theorem open_struct {r : Reach} {b0 : Nat} {t : TypeId} {fs : Array Field} {v : Value} {d : DataW H} {p : List MemPlace} (ht : P.underlying t = some (.struct fs)) (hv : Value.okWide P w r b0 t v) (h : DataW.Trod enc P w 0 (fun _ => true) true t v d p) :
    ∃ cs : List Value, v = .agg cs.toArray ∧ cs.length = P.cellsOf t ∧ ∃ n, ∀ (j : Nat) (f : Field), fs[j]? = some f → ∃ y, DataW.trod enc P w 0 (fun _ => true) true n f.type ((cs.drop f.offset).take (P.cellsOf f.type)) = some y := by
  obtain ⟨cs, rfl, hsz⟩ := okWide_struct ht hv
  obtain ⟨fuel, hf⟩ := h
  obtain ⟨hc, n, hg⟩ := trod_fields ht hf
  exact ⟨cs.toList, by simp, hc, n, hg⟩

/-- A slice of structs of k cells each, as its cell tells: row by row. -/
theorem open_rowsN {t e : TypeId} {u : Value} {m : Nat} {y : DataW H × List MemPlace} (ht : P.underlying t = some (.slice e)) (h : DataW.trod enc P w 0 (fun _ => true) true m t [u] = some y) (hpos : 0 < P.cellsOf e) :
    ∃ (a : Option Addr) (len cap : Nat), u = .slice a len cap ∧ len ≤ cap ∧ cap ≤ maxLen ∧
      (0 < len → ∃ (b off : Nat) (V : Nat → List Value) (n : Nat), a = some ⟨b, off, none⟩ ∧ b < w.heap.size ∧
        ∀ i, i < cap → (V i).length = P.cellsOf e ∧ (∀ j v, (V i)[j]? = some v → w.cell? ⟨b, off + (i * P.cellsOf e + j), none⟩ = some v) ∧ ∃ z, DataW.trod enc P w 0 (fun _ => true) true n e (V i) = some z) := by
  rcases open_slice ht h with ⟨hcs, _⟩ | ⟨x, l, c, m, n, D, Pl, hcs, _, hl, hm, hmm, _, hi⟩
  · simp at hcs
    exact ⟨_, _, _, hcs, Nat.le_refl _, by unfold maxLen; omega, fun h => absurd h (by omega)⟩
  · simp at hcs
    simp only [if_true] at hmm
    subst hmm
    refine ⟨_, _, _, hcs, hl, hm, fun hp => ?_⟩
    have hi' : ∀ i, ∃ cs' : List Value, i < m → w.cells? 0 (x.add (i * P.cellsOf e)) (P.cellsOf e) = some cs' ∧ DataW.trod enc P w 0 (fun _ => true) true n e cs' = some (D i, Pl i) := fun i => by
      by_cases h : i < m
      · obtain ⟨cs', h1, h2⟩ := hi i h; exact ⟨cs', fun _ => ⟨h1, h2⟩⟩
      · exact ⟨[], fun h' => absurd h' h⟩
    obtain ⟨V, hV⟩ := Classical.axiomOfChoice hi'
    have row : ∀ i, i < m → (V i).length = P.cellsOf e ∧ (∀ j v, (V i)[j]? = some v → w.cell? (x.add (i * P.cellsOf e + j)) = some v) := by
      intro i him
      obtain ⟨h1, _⟩ := hV i him
      obtain ⟨_, hlen, hat⟩ := World.cells?_some h1
      refine ⟨hlen, fun j v hv => ?_⟩
      have hjl : j < P.cellsOf e := by rw [← hlen]; exact (List.getElem?_eq_some_iff.1 hv).1
      have := hat j hjl
      rw [hv] at this
      rw [← Go.Deep.add_add]
      exact this
    have h0 : 0 < m := by omega
    obtain ⟨r1, r2⟩ := row 0 h0
    have hlt : 0 < (V 0).length := by rw [r1]; exact hpos
    have hv0 := r2 0 _ (List.getElem?_eq_getElem hlt)
    have hspot : x.spot = none := by
      have := World.cell?_spot hv0
      simpa [Addr.add] using this
    obtain ⟨b, off, spot⟩ := x
    simp only at hspot
    subst hspot
    have hb : b < w.heap.size := by
      have := cell_lt hv0
      simpa [Addr.add] using this
    have hadd : ∀ k : Nat, (Addr.add ⟨b, off, none⟩ k) = ⟨b, off + k, none⟩ := by
      intro k
      unfold Addr.add
      split
      · simp_all
      · rfl
    refine ⟨b, off, V, n, rfl, hb, fun i him => ⟨(row i him).1, fun j v hv => ?_, _, (hV i him).2⟩⟩
    rw [← hadd]
    exact (row i him).2 j v hv
end
end Go.Proofs.Ytnokojobiaddmaa
