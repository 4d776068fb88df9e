/- How an argument of type api.Hard is opened; three boxed cells kept over calls. -/
import Derived.Test.YthahlfabcjnkhaaOpen2
import Derived.Test.YthahlfabcjnkhaaOneTimeW
namespace Go.Proofs.Ythahlfabcjnkhaa
open Go.ChangeShapes Go.WideShapes Go.ChangeAt Go.RowKit
set_option linter.unusedVariables false
set_option linter.unusedSimpArgs false

/-- What is told of an api.Hard that came in. -/
structure XT_Hard where
  t : Int
  v : Int
  b : Int
def Is_Hard (w : World) (v : Value) (x : XT_Hard) : Prop := v = .agg #[.int .i64 x.t, .int .i64 x.v, .int .i64 x.b] ∧ (Lit.int .i64 x.t).wf = true
set_option maxRecDepth 100000 in
theorem open_Hard {H : Type} {enc : TypeId × Value → H} {w : World} {r : Reach} {b0 : Nat} {v : Value} {d : DataW H} {p : List MemPlace} (hv : Value.okWide Try.prog w r b0 53 v) (h : DataW.Trod enc Try.prog w 0 (fun _ => true) true 53 v d p) : ∃ x, Is_Hard w v x := by
  obtain ⟨cs, rfl, hsz, hf⟩ := open_agg Try.underlying53 (by kernel_rfl) (by kernel_rfl) hv h
  obtain ⟨u0, c0, n0, y0, t0⟩ := hf 0 _ rfl
  obtain ⟨u1, c1, n1, y1, t1⟩ := hf 1 _ rfl
  obtain ⟨u2, c2, n2, y2, t2⟩ := hf 2 _ rfl
  obtain ⟨e0, f0⟩ := trod_int' Try.underlying3 t0
  obtain ⟨e1, f1⟩ := trod_int' Try.underlying3 t1
  obtain ⟨e2, f2⟩ := trod_int' Try.underlying3 t2
  refine ⟨⟨intOf u0, intOf u1, intOf u2⟩, ?_, f0⟩
  obtain ⟨l⟩ := cs
  have hl : l.length = 3 := by simpa using hsz
  match l, hl with
  | [x0, x1, x2], _ =>
    simp at c0 c1 c2
    subst c0; subst c1; subst c2
    show Value.agg #[x0, x1, x2] = .agg #[.int .i64 (intOf x0), .int .i64 (intOf x1), .int .i64 (intOf x2)]
    rw [← e0, ← e1, ← e2]

theorem conj3_below {w u u' : World} {b : Nat} {v0 v1 v2 : Value} (h : u.cell? ⟨b, 0, none⟩ = some v0 ∧ u.cell? ⟨b, 1, none⟩ = some v1 ∧ u.cell? ⟨b, 2, none⟩ = some v2 ∧ Below w.heap.size w u) (k : Below u.heap.size u u') :
    u'.cell? ⟨b, 0, none⟩ = some v0 ∧ u'.cell? ⟨b, 1, none⟩ = some v1 ∧ u'.cell? ⟨b, 2, none⟩ = some v2 ∧ Below w.heap.size w u' := by
  have hl : b < u.heap.size := block_lt_of_cell h.1
  exact ⟨(k.cell (p := ⟨b, _, none⟩) hl).trans h.1, (k.cell (p := ⟨b, _, none⟩) hl).trans h.2.1, (k.cell (p := ⟨b, _, none⟩) hl).trans h.2.2.1, h.2.2.2.trans (k.mono h.2.2.2.size)⟩
theorem conj3_out {w u : World} {b : Nat} {v0 v1 v2 : Value} (h : u.cell? ⟨b, 0, none⟩ = some v0 ∧ u.cell? ⟨b, 1, none⟩ = some v1 ∧ u.cell? ⟨b, 2, none⟩ = some v2 ∧ Below w.heap.size w u) : Below w.heap.size w u := h.2.2.2
end Go.Proofs.Ythahlfabcjnkhaa
