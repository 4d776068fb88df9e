/- How arguments of types []api.Flow and api.Packet are opened. -/
import Derived.Test.YthahlfabcjnkhaaOpen3
import Derived.Test.YthahlfabcjnkhaaPk1
namespace Go.Proofs.Ythahlfabcjnkhaa
open Go.ChangeShapes Go.WideShapes Go.ChangeAt Go.RowKit
set_option linter.unusedVariables false
set_option linter.unusedSimpArgs false
open Pk

structure XT_LFlow where
  a : Option Addr
  n : Nat
  cap : Nat
  T : Nat → Int
def Is_LFlow (w : World) (v : Value) (x : XT_LFlow) : Prop :=
  v = .slice x.a x.n x.cap ∧ x.n ≤ x.cap ∧ x.cap ≤ 9223372036854775807 ∧ (0 < x.n → ∃ b off, x.a = some ⟨b, off, none⟩ ∧ b < w.heap.size ∧ ∀ i, i < x.n → w.cell? ⟨b, off + i * 3, none⟩ = some (.int .i64 (x.T i)))
structure XT_Packet where
  num : Int
  t : Int
  C : Int
  a : Option Addr
  n : Nat
  cap : Nat
  f : Nat → Nat
def Is_Packet (w : World) (v : Value) (x : XT_Packet) : Prop :=
  v = .agg #[.int .i64 x.num, .int .i64 x.t, .int .i64 x.C, .slice x.a x.n x.cap] ∧ (Lit.int .i64 x.num).wf = true ∧ (Lit.int .i64 x.t).wf = true ∧ (Lit.int .i64 x.C).wf = true ∧ x.n ≤ x.cap ∧ x.cap ≤ 9223372036854775807 ∧ (0 < x.n → ∃ b off, x.a = some ⟨b, off, none⟩ ∧ b < w.heap.size ∧ BytesAt w b off x.n x.f)

theorem i64_b {n : Int} (h : (Lit.int .i64 n).wf = true) : -9223372036854775808 ≤ n ∧ n ≤ 9223372036854775807 := by
  simp [Lit.wf, IntKind.min, IntKind.max, IntKind.signed, IntKind.bits] at h
  omega
theorem u8_b {n : Int} (h : (Lit.int .u8 n).wf = true) : 0 ≤ n ∧ n ≤ 255 := by
  simp [Lit.wf, IntKind.min, IntKind.max, IntKind.signed, IntKind.bits] at h
  omega

section
variable {H : Type} {enc : TypeId × Value → H} {w : World}
set_option maxRecDepth 100000 in
theorem open_LFlow {r : Reach} {b0 : Nat} {v : Value} {d : DataW H} {p : List MemPlace} (hv : Value.okWide Try.prog w r b0 22 v) (h : DataW.Trod enc Try.prog w 0 (fun _ => true) true 22 v d p) : ∃ x, Is_LFlow w v x := by
  obtain ⟨a, len, cap, rfl, hl, hm, hrow⟩ := open_rows Try.underlying22 Try.underlying32 (by kernel_rfl) (by kernel_rfl) hv h
  unfold maxLen at hm
  by_cases hp : 0 < len
  · obtain ⟨b, off, V, rfl, hb, hV⟩ := hrow hp (by decide)
    refine ⟨⟨some ⟨b, off, none⟩, len, cap, fun i => intOf (V i 0)⟩, rfl, hl, hm, fun _ => ⟨b, off, rfl, hb, fun i hi => ?_⟩⟩
    have hi' : i < cap := by simp only at hi; omega
    obtain ⟨h1, n, y, h2⟩ := hV i hi' 0 _ rfl
    obtain ⟨e0, _⟩ := trod_int' Try.underlying3 h2
    rw [e0] at h1
    simpa using h1
  · exact ⟨⟨a, len, cap, fun _ => 0⟩, rfl, hl, hm, fun h => absurd h hp⟩

set_option maxRecDepth 100000 in
theorem open_Packet {r : Reach} {b0 : Nat} {v : Value} {d : DataW H} {p : List MemPlace} (hv : Value.okWide Try.prog w r b0 25 v) (h : DataW.Trod enc Try.prog w 0 (fun _ => true) true 25 v d p) : ∃ x, Is_Packet w v x := by
  obtain ⟨cs, rfl, hsz, hf⟩ := open_agg Try.underlying25 (by kernel_rfl) (by kernel_rfl) hv h
  obtain ⟨u0, c0, n0, y0, t0⟩ := hf 0 _ rfl
  obtain ⟨u1, c1, n1, y1, t1⟩ := hf 1 _ rfl
  obtain ⟨u2, c2, n2, y2, t2⟩ := hf 2 _ rfl
  obtain ⟨u3, c3, n3, y3, t3⟩ := hf 3 _ rfl
  obtain ⟨e0, f0⟩ := trod_int' Try.underlying3 t0
  obtain ⟨e1, f1⟩ := trod_int' Try.underlying3 t1
  obtain ⟨e2, f2⟩ := trod_int' Try.underlying3 t2
  have k1 : Try.prog.cellsOf 5 = 1 := by kernel_rfl
  obtain ⟨a, len, cap, e3, hl, hm, hrow⟩ := open_rowsN Try.underlying23 t3 (by rw [k1]; omega)
  rw [k1] at hrow
  unfold maxLen at hm
  have hagg : Value.agg cs = .agg #[.int .i64 (intOf u0), .int .i64 (intOf u1), .int .i64 (intOf u2), .slice a len cap] := by
    obtain ⟨l⟩ := cs
    have hl : l.length = 4 := by simpa using hsz
    match l, hl with
    | [x0, x1, x2, x3], _ =>
      simp at c0 c1 c2 c3
      subst c0; subst c1; subst c2; subst c3
      rw [← e0, ← e1, ← e2, ← e3]
  by_cases hp : 0 < len
  · obtain ⟨b, off, V, n, rfl, hb, hV⟩ := hrow hp
    refine ⟨⟨intOf u0, intOf u1, intOf u2, some ⟨b, off, none⟩, len, cap, fun i => (intOf ((V i).getD 0 undef)).toNat⟩, hagg, f0, f1, f2, hl, hm, fun _ => ⟨b, off, rfl, hb, fun i hi => ?_⟩⟩
    have hi' : i < cap := by simp only at hi; omega
    obtain ⟨q1, q2, z, q3⟩ := hV i hi'
    obtain ⟨x, hx⟩ : ∃ x, V i = [x] := List.length_eq_one_iff.1 q1
    rw [hx] at q2 q3
    obtain ⟨e4, f4⟩ := trod_int' Try.underlying5 q3
    have hb4 := u8_b f4
    have hc := q2 0 x rfl
    have hg : (intOf ((V i).getD 0 undef)).toNat = (intOf x).toNat := by rw [hx]; rfl
    simp only
    rw [hg]
    refine ⟨?_, by omega⟩
    rw [e4] at hc
    rw [show (((intOf x).toNat : Nat) : Int) = intOf x by omega]
    simpa using hc
  · exact ⟨⟨intOf u0, intOf u1, intOf u2, a, len, cap, fun _ => 0⟩, hagg, f0, f1, f2, hl, hm, fun h => absurd h hp⟩
end
end Go.Proofs.Ythahlfabcjnkhaa
