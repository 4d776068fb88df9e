/- How arguments that are slices of structs are opened: plain lemmas on the reading of a start, over any program. -/
import Derived.Deep.Slices
import Derived.Deep.Fields
import Derived.ChangeSame
import Derived.ChangeOld
import Derived.OpenShut
import Derived.WideShapes
import Derived.Below
namespace Go.Proofs.Ytnokojobiaddmaa
open Go.ChangeShapes Go.WideShapes Go.Deep Go.RowKit

theorem cell_lt {w : World} {a : Addr} {v : Value} (h : w.cell? a = some v) : a.block < w.heap.size := by
  unfold World.cell? at h
  split at h
  · rename_i hb
    exact (Array.getElem?_eq_some_iff.1 hb).1
  · simp at h

section
variable {H : Type} {enc : TypeId × Value → H} {P : Program} {w : World}

/-- A slice of structs of one-cell fields, as it came in: row by row, field by field. -/
theorem open_rows {r : Reach} {b0 : Nat} {t e : TypeId} {fs : Array Field} {v : Value} {d : DataW H} {p : List MemPlace} (ht : P.underlying t = some (.slice e)) (he : P.underlying e = some (.struct fs))
    (hone : oneCellFields P fs = true) (hC : P.cellsOf e = fs.size) (hv : Value.okWide P w r b0 t v) (h : DataW.Trod enc P w 0 (fun _ => true) true t v d p) :
    ∃ (a : Option Addr) (len cap : Nat), v = .slice a len cap ∧ len ≤ cap ∧ cap ≤ maxLen ∧
      (0 < len → 0 < fs.size → ∃ (b off : Nat) (V : Nat → Nat → Value), a = some ⟨b, off, none⟩ ∧ b < w.heap.size ∧
        ∀ i, i < cap → ∀ (j : Nat) (f : Field), fs[j]? = some f → w.cell? ⟨b, off + (i * fs.size + j), none⟩ = some (V i j) ∧ ∃ n y, DataW.trod enc P w 0 (fun _ => true) true n f.type [V i j] = some y) := by
  obtain ⟨a, len, cap, rfl⟩ := okWide_slice ht hv
  obtain ⟨fuel, hf⟩ := h
  rcases open_slice ht hf with ⟨hcs, _⟩ | ⟨x, l, c, m, n, D, Pl, hcs, _, hl, hm, hmm, _, hi⟩
  · simp [Value.cells] at hcs
    obtain ⟨rfl, rfl, rfl⟩ := hcs
    exact ⟨_, _, _, rfl, Nat.le_refl _, by unfold maxLen; omega, fun h => absurd h (by omega)⟩
  · simp [Value.cells] at hcs
    obtain ⟨rfl, rfl, rfl⟩ := hcs
    simp only [if_true] at hmm
    subst hmm
    refine ⟨_, _, _, rfl, hl, hm, fun hpos hfs => ?_⟩
    have row : ∀ i, i < m → ∀ (j : Nat) (f : Field), fs[j]? = some f → ∃ v, w.cell? (x.add (i * fs.size + j)) = some v ∧ ∃ n y, DataW.trod enc P w 0 (fun _ => true) true n f.type [v] = some y := by
      intro i him j f hj
      obtain ⟨cs', hc, ht'⟩ := hi i him
      rw [hC] at hc
      obtain ⟨ys, n', hn', _, hlen, hyl, hff⟩ := DataW.trod_struct he ht'
      obtain ⟨_, hcl, hat⟩ := World.cells?_some hc
      obtain ⟨ho, hk⟩ := hone_of hone j f hj
      have hjl : j < fs.size := (Array.getElem?_eq_some_iff.1 hj).1
      have hcell := hat j hjl
      have hv : cs'[j]? = some (cs'[j]'(by omega)) := List.getElem?_eq_getElem (by omega)
      have h1 := hff j f hj
      rw [ho, hk] at h1
      have hone' : (cs'.drop j).take 1 = [cs'[j]'(by omega)] := by
        rw [List.drop_eq_getElem_cons (by omega)]
        rfl
      rw [hone', List.getElem?_eq_getElem (show j < ys.length by omega)] at h1
      rw [hv] at hcell
      exact ⟨_, by rw [← Go.Deep.add_add]; exact hcell, _, _, h1⟩
    obtain ⟨v0, hv0, _⟩ := row 0 (by omega) 0 (fs[0]'hfs) (by simp)
    have hspot : x.spot = none := by
      have := World.cell?_spot hv0
      simpa [Addr.add] using this
    obtain ⟨b, off, spot⟩ := x
    simp only at hspot
    subst hspot
    have hb : b < w.heap.size := by
      have := cell_lt hv0
      simpa [Addr.add] using this
    have hadd : ∀ k : Nat, (Addr.add ⟨b, off, none⟩ k) = ⟨b, off + k, none⟩ := by
      intro k
      unfold Addr.add
      split
      · simp_all
      · rfl
    classical
    refine ⟨b, off, fun i j => (w.cell? ⟨b, off + (i * fs.size + j), none⟩).getD undef, rfl, hb, fun i him j f hj => ?_⟩
    obtain ⟨v, hv, n, y, hy⟩ := row i him j f hj
    rw [hadd] at hv
    have e : (w.cell? ⟨b, off + (i * fs.size + j), none⟩).getD undef = v := by rw [hv]; rfl
    show w.cell? _ = some ((w.cell? ⟨b, off + (i * fs.size + j), none⟩).getD undef) ∧ ∃ n y, DataW.trod enc P w 0 (fun _ => true) true n f.type [(w.cell? ⟨b, off + (i * fs.size + j), none⟩).getD undef] = some y
    rw [e]
    exact ⟨hv, n, y, hy⟩

theorem trod_int' {t : TypeId} {k : IntKind} {n : Nat} {v : Value} {y : DataW H × List MemPlace} (ht : P.underlying t = some (.int k)) (h : DataW.trod enc P w 0 (fun _ => true) true n t [v] = some y) :
    v = .int k (intOf v) ∧ (Lit.int k (intOf v)).wf = true := by
  obtain ⟨m, hm, _, hw⟩ := DataW.trod_int ht h
  simp at hm
  subst hm
  exact ⟨rfl, hw⟩
end
end Go.Proofs.Ytnokojobiaddmaa
