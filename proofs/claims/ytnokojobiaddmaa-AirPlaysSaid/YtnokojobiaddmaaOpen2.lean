/- How an argument that is a struct by value is opened: plain lemmas on the reading of a start, over any program. -/
import Derived.Test.YtnokojobiaddmaaOpen
namespace Go.Proofs.Ytnokojobiaddmaa
open Go.ChangeShapes Go.WideShapes Go.Deep Go.RowKit

section
variable {H : Type} {enc : TypeId × Value → H} {P : Program} {w : World}

/-- A struct of one-cell fields by value: its cells, field by field. -/
theorem open_agg {r : Reach} {b0 : Nat} {t : TypeId} {fs : Array Field} {v : Value} {d : DataW H} {p : List MemPlace} (ht : P.underlying t = some (.struct fs))
    (hone : oneCellFields P fs = true) (hC : P.cellsOf t = fs.size) (hv : Value.okWide P w r b0 t v) (h : DataW.Trod enc P w 0 (fun _ => true) true t v d p) :
    ∃ cs : Array Value, v = .agg cs ∧ cs.size = fs.size ∧ ∀ (j : Nat) (f : Field), fs[j]? = some f → ∃ u, cs[j]? = some u ∧ ∃ n y, DataW.trod enc P w 0 (fun _ => true) true n f.type [u] = some y := by
  obtain ⟨cs, rfl, hsz⟩ := okWide_struct ht hv
  obtain ⟨fuel, hf⟩ := h
  obtain ⟨xs, n, _, hx, _, hlen, hg⟩ := DataW.trod_struct ht hf
  refine ⟨cs, rfl, hsz.trans hC, fun j f hj => ?_⟩
  obtain ⟨ho, hk⟩ := hone_of hone j f hj
  have hjl : j < fs.size := (Array.getElem?_eq_some_iff.1 hj).1
  have hjc : j < cs.toList.length := by have := hsz.trans hC; simp; omega
  have h1 := hg j f hj
  rw [ho, hk] at h1
  have hone' : (cs.toList.drop j).take 1 = [cs.toList[j]'hjc] := by
    rw [List.drop_eq_getElem_cons hjc]
    rfl
  have hcells : (Value.agg cs).cells.toList = cs.toList := rfl
  rw [hcells, hone', List.getElem?_eq_getElem (show j < xs.length by omega)] at h1
  refine ⟨cs.toList[j]'hjc, ?_, n, _, h1⟩
  rw [Array.getElem?_eq_getElem (by simpa using hjc)]
  simp

theorem trod_bool' {t : TypeId} {n : Nat} {v : Value} {y : DataW H × List MemPlace} (ht : P.underlying t = some .bool) (h : DataW.trod enc P w 0 (fun _ => true) true n t [v] = some y) : ∃ b, v = .bool b := by
  cases n with
  | zero => simp [DataW.trod] at h
  | succ n =>
    unfold DataW.trod at h
    rw [ht] at h
    cases v <;> simp at h
    exact ⟨_, rfl⟩

theorem trod_slice' {t e : TypeId} {n : Nat} {v : Value} {y : DataW H × List MemPlace} (ht : P.underlying t = some (.slice e)) (h : DataW.trod enc P w 0 (fun _ => true) true n t [v] = some y) :
    ∃ a l c, v = .slice a l c ∧ l ≤ c ∧ c ≤ 9223372036854775807 := by
  rcases open_slice ht h with ⟨hcs, _⟩ | ⟨x, l, c, m, n, D, Pl, hcs, _, hl, hm, _, _, _⟩
  · simp at hcs
    exact ⟨_, _, _, hcs, Nat.le_refl _, by omega⟩
  · simp at hcs
    exact ⟨_, _, _, hcs, hl, by unfold maxLen at hm; exact hm⟩
end
end Go.Proofs.Ytnokojobiaddmaa
