/- What GrantPlays says. -/
import Derived.Test.YtifohibpcngakaaD15
import Derived.Test.YtifohibpcngakaaOpen3
namespace Go.Proofs.Ytifohibpcngakaa
open Go.ChangeShapes Go.WideShapes Go.ChangeAt Go.RowKit Go.Maps Go.Deep
set_option linter.unusedVariables false
set_option linter.unusedSimpArgs false
open BigFrame Bs Gr

namespace Gr
/-- An act, as it came in. -/
def ActAt (w : World) (b o : Nat) (f : Nat → Int) (a : Option Addr) (n c : Nat) (g : Nat → Int) : Prop :=
  w.cell? ⟨b, o, none⟩ = some (.int .i64 (f 0)) ∧ w.cell? ⟨b, o + 1, none⟩ = some (.int .i64 (f 1)) ∧ w.cell? ⟨b, o + 2, none⟩ = some (.int .i64 (f 2)) ∧ w.cell? ⟨b, o + 3, none⟩ = some (.slice a n c) ∧
  (∀ j, (Lit.int .i64 (f j)).wf = true) ∧ n ≤ c ∧ c ≤ 9223372036854775807 ∧ (0 < n → ∃ b2 o2, a = some ⟨b2, o2, none⟩ ∧ b2 < w.heap.size ∧ ∀ j, j < n → w.cell? ⟨b2, o2 + j, none⟩ = some (.int .i64 (g j)) ∧ (Lit.int .i64 (g j)).wf = true)
def Acts (w : World) (p : Option Addr) (N : Nat) : Prop := 0 < N → ∃ b off, p = some ⟨b, off, none⟩ ∧ b < w.heap.size ∧ ∀ i, i < N → ∃ f a n c g, ActAt w b (off + i * 4) f a n c g
theorem wf0 : (Lit.int .i64 0).wf = true := by decide
end Gr

abbrev XT_LAct := Unit
def Is_LAct (w : World) (v : Value) (x : XT_LAct) : Prop := ∃ a len cap, v = .slice a len cap ∧ len ≤ cap ∧ cap ≤ 9223372036854775807 ∧ Acts w a len
section
variable {H : Type} {enc : TypeId × Value → H} {w : World}
theorem len4 {l : List Value} (h : l.length = 4) : ∃ x0 x1 x2 x3, l = [x0, x1, x2, x3] := by
  match l, h with
  | [x0, x1, x2, x3], _ => exact ⟨_, _, _, _, rfl⟩
theorem ints_of {u : Value} {m : Nat} {y : DataW H × List MemPlace} (h : DataW.trod enc Try.prog w 0 (fun _ => true) true m 35 [u] = some y) :
    ∃ (a : Option Addr) (n c : Nat) (g : Nat → Int), u = .slice a n c ∧ n ≤ c ∧ c ≤ 9223372036854775807 ∧ (0 < n → ∃ b2 o2, a = some ⟨b2, o2, none⟩ ∧ b2 < w.heap.size ∧ ∀ j, j < n → w.cell? ⟨b2, o2 + j, none⟩ = some (.int .i64 (g j)) ∧ (Lit.int .i64 (g j)).wf = true) := by
  obtain ⟨a, n, c, rfl, h1, h2, h3⟩ := open_rowsN Try.underlying35 h (of_decide_eq_true (by kernel_rfl))
  unfold maxLen at h2
  by_cases hp : 0 < n
  · obtain ⟨b, o, V, k, rfl, hb, hc⟩ := h3 hp
    refine ⟨_, n, c, fun j => intOf ((V j).getD 0 undef), rfl, h1, h2, fun _ => ⟨b, o, rfl, hb, fun j hj => ?_⟩⟩
    obtain ⟨q1, q2, z, q3⟩ := hc j (by omega)
    have k1 : Try.prog.cellsOf 3 = 1 := by kernel_rfl
    rw [k1] at q1 q2
    obtain ⟨x, hx⟩ : ∃ x, V j = [x] := by
      match hv : V j, q1 with
      | [x], _ => exact ⟨x, rfl⟩
    rw [hx] at q3
    obtain ⟨e0, f0⟩ := trod_int' Try.underlying3 q3
    have q4 := q2 0 x (by rw [hx]; rfl)
    rw [Nat.mul_one, Nat.add_zero, e0] at q4
    show w.cell? ⟨b, o + j, none⟩ = some (.int .i64 (intOf ((V j).getD 0 undef))) ∧ (Lit.int .i64 (intOf ((V j).getD 0 undef))).wf = true
    rw [hx]
    exact ⟨q4, f0⟩
  · exact ⟨a, n, c, fun _ => 0, rfl, h1, h2, fun q => absurd q hp⟩
set_option maxRecDepth 100000 in
theorem open_LAct {r : Reach} {b0 : Nat} {v : Value} {d : DataW H} {p : List MemPlace} (hv : Value.okWide Try.prog w r b0 25 v) (h : DataW.Trod enc Try.prog w 0 (fun _ => true) true 25 v d p) : ∃ x, Is_LAct w v x := by
  obtain ⟨a, len, cap, rfl⟩ := okWide_slice Try.underlying25 hv
  obtain ⟨fuel, hf⟩ := h
  obtain ⟨a', n, c, e, h1, h2, h3⟩ := open_rowsN Try.underlying25 (show DataW.trod enc Try.prog w 0 (fun _ => true) true fuel 25 [.slice a len cap] = some _ from hf) (of_decide_eq_true (by kernel_rfl))
  cases e
  unfold maxLen at h2
  refine ⟨(), a, len, cap, rfl, h1, h2, fun hp => ?_⟩
  obtain ⟨b, off, V, m, rfl, hb, hc⟩ := h3 hp
  refine ⟨b, off, rfl, hb, fun i hi => ?_⟩
  obtain ⟨q1, q2, z, q3⟩ := hc i (by omega)
  have k1 : Try.prog.cellsOf 3 = 1 := by kernel_rfl
  have k2 : Try.prog.cellsOf 35 = 1 := by kernel_rfl
  have k4 : Try.prog.cellsOf 46 = 4 := by kernel_rfl
  rw [k4] at q1 q2
  obtain ⟨x0, x1, x2, x3, hx⟩ := len4 q1
  rw [hx] at q3
  obtain ⟨_, mm_, hg⟩ := trod_fields Try.underlying46 q3
  obtain ⟨y0, t0⟩ := hg 0 _ rfl
  obtain ⟨y1, t1⟩ := hg 1 _ rfl
  obtain ⟨y2, t2⟩ := hg 2 _ rfl
  obtain ⟨y3, t3⟩ := hg 3 _ rfl
  simp only [k1, k2, List.drop_zero, List.drop_succ_cons, List.take_succ_cons, List.take_zero, List.getElem_toArray, List.getElem_cons_zero, List.getElem_cons_succ] at t0 t1 t2 t3
  obtain ⟨e0, f0⟩ := trod_int' Try.underlying3 t0
  obtain ⟨e1, f1⟩ := trod_int' Try.underlying3 t1
  obtain ⟨e2, f2⟩ := trod_int' Try.underlying3 t2
  obtain ⟨sa, n, c, g, e3, s1, s2, s3⟩ := ints_of t3
  have c0 := q2 0 x0 (by rw [hx]; rfl)
  have c1 := q2 1 x1 (by rw [hx]; rfl)
  have c2 := q2 2 x2 (by rw [hx]; rfl)
  have c3 := q2 3 x3 (by rw [hx]; rfl)
  rw [e0] at c0
  rw [e1] at c1
  rw [e2] at c2
  rw [e3] at c3
  refine ⟨fun j => if j = 0 then intOf x0 else if j = 1 then intOf x1 else if j = 2 then intOf x2 else 0, sa, n, c, g, by rw [Nat.add_zero] at c0; exact c0, by rw [← Nat.add_assoc] at c1; exact c1, by rw [← Nat.add_assoc] at c2; exact c2, by rw [← Nat.add_assoc] at c3; exact c3, fun j => ?_, s1, s2, s3⟩
  by_cases j0 : j = 0
  · subst j0; exact f0
  · by_cases j1 : j = 1
    · subst j1; exact f1
    · by_cases j2 : j = 2
      · subst j2; exact f2
      · simp only [j0, j1, j2, if_false]; exact wf0
end
end Go.Proofs.Ytifohibpcngakaa
