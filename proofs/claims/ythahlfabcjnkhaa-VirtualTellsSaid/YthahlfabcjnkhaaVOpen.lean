/- How arguments of types api.Virtual and []bool are opened. -/
import Derived.Test.YthahlfabcjnkhaaPkOpen
import Derived.Test.YthahlfabcjnkhaaV3
namespace Go.Proofs.Ythahlfabcjnkhaa
open Go.ChangeShapes Go.WideShapes Go.ChangeAt Go.RowKit
set_option linter.unusedVariables false
set_option linter.unusedSimpArgs false
open Pk Vr

section
open Go.Deep
variable {H : Type} {enc : TypeId × Value → H} {P : Program} {w : World}
/-- A slice of structs of one-cell fields, as it came in: row by row, field by field. -/
theorem open_rowsT {t e : TypeId} {fs : Array Field} {v : Value} {fuel : Nat} {y : DataW H × List MemPlace} (ht : P.underlying t = some (.slice e)) (he : P.underlying e = some (.struct fs))
    (hone : oneCellFields P fs = true) (hC : P.cellsOf e = fs.size) (hf : DataW.trod enc P w 0 (fun _ => true) true fuel t [v] = some y) :
    ∃ (a : Option Addr) (len cap : Nat), v = .slice a len cap ∧ len ≤ cap ∧ cap ≤ maxLen ∧
      (0 < len → 0 < fs.size → ∃ (b off : Nat) (V : Nat → Nat → Value), a = some ⟨b, off, none⟩ ∧ b < w.heap.size ∧
        ∀ i, i < cap → ∀ (j : Nat) (f : Field), fs[j]? = some f → w.cell? ⟨b, off + (i * fs.size + j), none⟩ = some (V i j) ∧ ∃ n y, DataW.trod enc P w 0 (fun _ => true) true n f.type [V i j] = some y) := by
  rcases open_slice ht hf with ⟨hcs, _⟩ | ⟨x, l, c, m, n, D, Pl, hcs, _, hl, hm, hmm, _, hi⟩
  · simp at hcs
    exact ⟨_, _, _, hcs, Nat.le_refl _, by unfold maxLen; omega, fun h => absurd h (by omega)⟩
  · simp at hcs
    subst hcs
    simp only [if_true] at hmm
    subst hmm
    refine ⟨_, _, _, rfl, hl, hm, fun hpos hfs => ?_⟩
    have row : ∀ i, i < m → ∀ (j : Nat) (f : Field), fs[j]? = some f → ∃ v, w.cell? (x.add (i * fs.size + j)) = some v ∧ ∃ n y, DataW.trod enc P w 0 (fun _ => true) true n f.type [v] = some y := by
      intro i him j f hj
      obtain ⟨cs', hc, ht'⟩ := hi i him
      rw [hC] at hc
      obtain ⟨ys, n', hn', _, hlen, hyl, hff⟩ := DataW.trod_struct he ht'
      obtain ⟨_, hcl, hat⟩ := World.cells?_some hc
      obtain ⟨ho, hk⟩ := hone_of hone j f hj
      have hjl : j < fs.size := (Array.getElem?_eq_some_iff.1 hj).1
      have hcell := hat j hjl
      have hv : cs'[j]? = some (cs'[j]'(by omega)) := List.getElem?_eq_getElem (by omega)
      have h1 := hff j f hj
      rw [ho, hk] at h1
      have hone' : (cs'.drop j).take 1 = [cs'[j]'(by omega)] := by
        rw [List.drop_eq_getElem_cons (by omega)]
        rfl
      rw [hone', List.getElem?_eq_getElem (show j < ys.length by omega)] at h1
      rw [hv] at hcell
      exact ⟨_, by rw [← Go.Deep.add_add]; exact hcell, _, _, h1⟩
    obtain ⟨v0, hv0, _⟩ := row 0 (by omega) 0 (fs[0]'hfs) (by simp)
    have hspot : x.spot = none := by
      have := World.cell?_spot hv0
      simpa [Addr.add] using this
    obtain ⟨b, off, spot⟩ := x
    simp only at hspot
    subst hspot
    have hb : b < w.heap.size := by
      have := cell_lt hv0
      simpa [Addr.add] using this
    have hadd : ∀ k : Nat, (Addr.add ⟨b, off, none⟩ k) = ⟨b, off + k, none⟩ := by
      intro k
      unfold Addr.add
      split
      · simp_all
      · rfl
    classical
    refine ⟨b, off, fun i j => (w.cell? ⟨b, off + (i * fs.size + j), none⟩).getD undef, rfl, hb, fun i him j f hj => ?_⟩
    obtain ⟨v, hv, n, y, hy⟩ := row i him j f hj
    rw [hadd] at hv
    have e : (w.cell? ⟨b, off + (i * fs.size + j), none⟩).getD undef = v := by rw [hv]; rfl
    show w.cell? _ = some ((w.cell? ⟨b, off + (i * fs.size + j), none⟩).getD undef) ∧ ∃ n y, DataW.trod enc P w 0 (fun _ => true) true n f.type [(w.cell? ⟨b, off + (i * fs.size + j), none⟩).getD undef] = some y
    rw [e]
    exact ⟨hv, n, y, hy⟩


end

structure XT_Virtual where
  V : Int
  a : Option Addr
  n : Nat
  cap : Nat
  b : Nat
  off : Nat
  S : Nat → Int
  F : Nat → Int
def Is_Virtual (w : World) (v : Value) (x : XT_Virtual) : Prop :=
  v = .agg #[.int .i64 x.V, .slice x.a x.n x.cap] ∧ (Lit.int .i64 x.V).wf = true ∧ x.n ≤ x.cap ∧ x.cap ≤ 9223372036854775807 ∧ TagsAt w x.a x.b x.off x.n x.S x.F ∧ ∀ i, i < x.n → (Lit.int .i64 (x.S i)).wf = true ∧ (Lit.int .i64 (x.F i)).wf = true
structure XT_Lbool where
  a : Option Addr
  n : Nat
  cap : Nat
  b : Nat
  off : Nat
  R : Nat → Bool
def Is_Lbool (w : World) (v : Value) (x : XT_Lbool) : Prop :=
  v = .slice x.a x.n x.cap ∧ x.n ≤ x.cap ∧ x.cap ≤ 9223372036854775807 ∧ BoolsAt w x.a x.b x.off x.n x.R

section
variable {H : Type} {enc : TypeId × Value → H} {w : World}
set_option maxRecDepth 100000 in
theorem open_Virtual {r : Reach} {b0 : Nat} {v : Value} {d : DataW H} {p : List MemPlace} (hv : Value.okWide Try.prog w r b0 43 v) (h : DataW.Trod enc Try.prog w 0 (fun _ => true) true 43 v d p) : ∃ x, Is_Virtual w v x := by
  obtain ⟨cs, rfl, hsz, hf⟩ := open_agg Try.underlying43 (by kernel_rfl) (by kernel_rfl) hv h
  obtain ⟨u0, c0, n0, y0, t0⟩ := hf 0 _ rfl
  obtain ⟨u1, c1, n1, y1, t1⟩ := hf 1 _ rfl
  obtain ⟨e0, f0⟩ := trod_int' Try.underlying3 t0
  obtain ⟨a, len, cap, e1, hl, hm, hrow⟩ := open_rowsT Try.underlying41 Try.underlying50 (by kernel_rfl) (by kernel_rfl) t1
  unfold maxLen at hm
  have hagg : Value.agg cs = .agg #[.int .i64 (RowKit.intOf u0), .slice a len cap] := by
    obtain ⟨l⟩ := cs
    have hl : l.length = 2 := by simpa using hsz
    match l, hl with
    | [x0, x1], _ =>
      simp at c0 c1
      subst c0; subst c1
      rw [← e0, ← e1]
  by_cases hp : 0 < len
  · obtain ⟨b, off, V, rfl, hb, hV⟩ := hrow hp (by decide)
    have hc : ∀ i, i < len → (w.cell? ⟨b, off + i * 2, none⟩ = some (.int .i64 (RowKit.intOf (V i 0))) ∧ (Lit.int .i64 (RowKit.intOf (V i 0))).wf = true) ∧ w.cell? ⟨b, off + i * 2 + 1, none⟩ = some (.int .i64 (RowKit.intOf (V i 1))) ∧ (Lit.int .i64 (RowKit.intOf (V i 1))).wf = true := fun i hi => by
      obtain ⟨h1, n, y, h2⟩ := hV i (by omega) 0 _ rfl
      obtain ⟨h3, n', y', h4⟩ := hV i (by omega) 1 _ rfl
      obtain ⟨e2, f2⟩ := trod_int' Try.underlying3 h2
      obtain ⟨e3, f3⟩ := trod_int' Try.underlying3 h4
      rw [e2] at h1
      rw [e3] at h3
      exact ⟨⟨by simpa using h1, f2⟩, by simpa [Nat.add_assoc] using h3, f3⟩
    exact ⟨⟨RowKit.intOf u0, some ⟨b, off, none⟩, len, cap, b, off, fun i => RowKit.intOf (V i 0), fun i => RowKit.intOf (V i 1)⟩, hagg, f0, hl, hm, ⟨fun _ => rfl, fun _ => hb, fun i hi => (hc i hi).1.1, fun i hi => (hc i hi).2.1⟩, fun i hi => ⟨(hc i hi).1.2, (hc i hi).2.2⟩⟩
  · exact ⟨⟨RowKit.intOf u0, a, len, cap, 0, 0, fun _ => 0, fun _ => 0⟩, hagg, f0, hl, hm, ⟨fun h => absurd h hp, fun h => absurd h hp, fun i hi => absurd hi (by simp only; omega), fun i hi => absurd hi (by simp only; omega)⟩, fun i hi => absurd hi (by simp only; omega)⟩

set_option maxRecDepth 100000 in
theorem open_Lbool {r : Reach} {b0 : Nat} {v : Value} {d : DataW H} {p : List MemPlace} (hv : Value.okWide Try.prog w r b0 44 v) (h : DataW.Trod enc Try.prog w 0 (fun _ => true) true 44 v d p) : ∃ x, Is_Lbool w v x := by
  obtain ⟨a, len, cap, rfl⟩ := okWide_slice Try.underlying44 hv
  obtain ⟨fuel, hf⟩ := h
  have k1 : Try.prog.cellsOf 4 = 1 := by kernel_rfl
  obtain ⟨a', len', cap', e3, hl, hm, hrow⟩ := open_rowsN Try.underlying44 (show DataW.trod enc Try.prog w 0 (fun _ => true) true fuel 44 [.slice a len cap] = some _ from hf) (by rw [k1]; omega)
  rw [k1] at hrow
  unfold maxLen at hm
  cases e3
  by_cases hp : 0 < len
  · obtain ⟨b, off, V, n, rfl, hb, hV⟩ := hrow hp
    have hc : ∀ i, ∃ x : Bool, i < len → w.cell? ⟨b, off + i, none⟩ = some (.bool x) := fun i => by
      by_cases hi : i < len
      · obtain ⟨q1, q2, z, q3⟩ := hV i (by omega)
        obtain ⟨x, hx⟩ : ∃ x, V i = [x] := List.length_eq_one_iff.1 q1
        rw [hx] at q2 q3
        obtain ⟨y, rfl⟩ := trod_bool' Try.underlying4 q3
        exact ⟨y, fun _ => by simpa using q2 0 _ rfl⟩
      · exact ⟨false, fun h => absurd h hi⟩
    exact ⟨⟨some ⟨b, off, none⟩, len, cap, b, off, fun i => (hc i).choose⟩, rfl, hl, hm, ⟨fun _ => rfl, fun _ => hb, fun i hi => (hc i).choose_spec hi⟩⟩
  · exact ⟨⟨a, len, cap, 0, 0, fun _ => false⟩, rfl, hl, hm, ⟨fun h => absurd h hp, fun h => absurd h hp, fun i hi => absurd hi (by simp only; omega)⟩⟩
end
end Go.Proofs.Ythahlfabcjnkhaa
