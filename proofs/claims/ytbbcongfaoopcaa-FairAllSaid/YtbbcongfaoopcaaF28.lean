/- The scheduler: New whatever it is given; arguments opened; what is served, plain. -/
import Derived.Test.YtbbcongfaoopcaaF27
import Derived.Test.YtbbcongfaoopcaaOpen3
namespace Go.Proofs.Ytbbcongfaoopcaa
open Go.ChangeShapes Go.WideShapes Go.ChangeAt Go.RowKit Go.Maps
set_option linter.unusedVariables false
set_option linter.unusedSimpArgs false
open BigFrame Pk Fq Vr Fa

namespace Fa
open Classical in
noncomputable def errNew (dw : List Int) : Int := if newOk dw then 0 else 2
end Fa
/-- New made, or refused, whatever it is given. -/
theorem fnew_c (w : World) (aw : Option Addr) (nw cw : Nat) (dw : List Int) (Wt : IAt w aw nw cw dw) :
    (newOk dw ∧ Calls Try.prog 11 #[.slice aw nw cw] w (NewF nw (gd dw) w)) ∨ (¬ newOk dw ∧ Calls Try.prog 11 #[.slice aw nw cw] w (NoNew w)) := by
  have hlen := Wt.len
  by_cases hlw : dw.length < 1 ∨ 8 < dw.length
  · exact .inr ⟨fun q => by have := q.1; have := q.2.1; omega, fnew_len w aw nw cw (by omega)⟩
  · obtain ⟨b, off, rfl, hb, hc⟩ := Wt.row (by omega)
    have hc2 : ∀ i, i < nw → w.cell? ⟨b, off + i, none⟩ = some (.int .i64 (gd dw i)) := fun i hi => hc i _ (gd_at (by omega))
    by_cases hgood : ∀ i, i < nw → 1 ≤ gd dw i ∧ gd dw i ≤ 16
    · exact .inl ⟨⟨by omega, by omega, fun x hx => by
        obtain ⟨i, hi, rfl⟩ := List.getElem_of_mem hx
        have := hgood i (by omega)
        have e := gd_at hi
        rw [List.getElem?_eq_getElem hi] at e
        injection e with e
        rw [e]; exact this⟩, fnew_ok w b off nw cw (gd dw) (by omega) (by omega) hb hc2 hgood⟩
    · obtain ⟨m, hm, hbad, hmin⟩ := leastBad (fun i => 1 ≤ gd dw i ∧ gd dw i ≤ 16) nw hgood
      exact .inr ⟨fun q => hgood (fun i hi => q.2.2 _ (gd_mem (by omega))), fnew_bad w b off nw cw (gd dw) (by omega) (by omega) hb hc2 m hm hmin (by omega)⟩

structure XT_Lint where
  a : Option Addr
  n : Nat
  c : Nat
  d : List Int
def Is_Lint (w : World) (v : Value) (x : XT_Lint) : Prop := v = .slice x.a x.n x.c ∧ IAt w x.a x.n x.c x.d
structure XT_LLint where
  a : Option Addr
  b : Nat
  off : Nat
  n : Nat
  c : Nat
  A : Nat → Option Addr
  L : Nat → Nat
  C : Nat → Nat
  Q : Nat → List Int
def Is_LLint (w : World) (v : Value) (x : XT_LLint) : Prop := v = .slice x.a x.n x.c ∧ x.n ≤ x.c ∧ x.c ≤ 9223372036854775807 ∧ QsAt w x.a x.b x.off x.n x.A x.L x.C x.Q
section
variable {H : Type} {enc : TypeId × Value → H} {w : World}
set_option maxRecDepth 100000 in
theorem open_ints {n : Nat} {u : Value} {z : DataW H × List MemPlace} (h : DataW.trod enc Try.prog w 0 (fun _ => true) true n 22 [u] = some z) :
    ∃ a l c d, u = .slice a l c ∧ IAt w a l c d := by
  have k1 : Try.prog.cellsOf 3 = 1 := by kernel_rfl
  obtain ⟨a, len, cap, rfl, hl, hm, hrow⟩ := open_rowsN Try.underlying22 h (by rw [k1]; omega)
  rw [k1] at hrow
  unfold maxLen at hm
  by_cases hp : 0 < len
  · obtain ⟨b, off, V, n, rfl, hb, hV⟩ := hrow hp
    refine ⟨_, len, cap, (List.range len).map (fun i => RowKit.intOf ((V i).getD 0 undef)), rfl, by simp, hl, hm, fun _ => ⟨b, off, rfl, hb, fun i x hx => ?_⟩⟩
    have hi : i < len := by have := (List.getElem?_eq_some_iff.1 hx).1; simpa using this
    simp [hi] at hx
    subst hx
    obtain ⟨q1, q2, z, q3⟩ := hV i (by omega)
    obtain ⟨x, hx⟩ : ∃ x, V i = [x] := List.length_eq_one_iff.1 q1
    rw [hx] at q2 q3
    obtain ⟨e4, f4⟩ := trod_int' Try.underlying3 q3
    have hc := q2 0 x rfl
    have hg : RowKit.intOf ((V i)[0]?.getD undef) = RowKit.intOf x := by rw [hx]; rfl
    rw [hg]
    rw [e4] at hc
    simpa using hc
  · obtain rfl : len = 0 := by omega
    exact ⟨a, 0, cap, [], rfl, IAt.nil _ _ _ hm⟩
set_option maxRecDepth 100000 in
theorem open_Lint {r : Reach} {b0 : Nat} {v : Value} {d : DataW H} {p : List MemPlace} (hv : Value.okWide Try.prog w r b0 22 v) (h : DataW.Trod enc Try.prog w 0 (fun _ => true) true 22 v d p) : ∃ x, Is_Lint w v x := by
  obtain ⟨a0, len0, cap0, rfl⟩ := okWide_slice Try.underlying22 hv
  obtain ⟨fuel, hf⟩ := h
  obtain ⟨a, len, cap, l, he, h1⟩ := open_ints (u := .slice a0 len0 cap0) hf
  cases he
  exact ⟨⟨a0, len0, cap0, l⟩, rfl, h1⟩
set_option maxRecDepth 100000 in
theorem open_LLint {r : Reach} {b0 : Nat} {v : Value} {d : DataW H} {p : List MemPlace} (hv : Value.okWide Try.prog w r b0 23 v) (h : DataW.Trod enc Try.prog w 0 (fun _ => true) true 23 v d p) : ∃ x, Is_LLint w v x := by
  obtain ⟨a0, len0, cap0, rfl⟩ := okWide_slice Try.underlying23 hv
  obtain ⟨fuel, hf⟩ := h
  have k1 : Try.prog.cellsOf 22 = 1 := by kernel_rfl
  obtain ⟨a, len, cap, he, hl, hm, hrow⟩ := open_rowsN (u := .slice a0 len0 cap0) Try.underlying23 hf (by rw [k1]; omega)
  cases he
  rw [k1] at hrow
  unfold maxLen at hm
  by_cases hp : 0 < len0
  · obtain ⟨b, off, V, n, rfl, hb, hV⟩ := hrow hp
    have hE : ∀ i, ∃ q : Option Addr × Nat × Nat × List Int, i < cap0 → w.cell? ⟨b, off + i, none⟩ = some (.slice q.1 q.2.1 q.2.2.1) ∧ IAt w q.1 q.2.1 q.2.2.1 q.2.2.2 := fun i => by
      by_cases hi : i < cap0
      · obtain ⟨q1, q2, z, q3⟩ := hV i hi
        obtain ⟨x, hx⟩ : ∃ x, V i = [x] := List.length_eq_one_iff.1 q1
        rw [hx] at q2 q3
        obtain ⟨a, l, c, d, rfl, hI⟩ := open_ints q3
        exact ⟨(a, l, c, d), fun _ => ⟨by have := q2 0 _ rfl; simpa using this, hI⟩⟩
      · exact ⟨(none, 0, 0, []), fun h => absurd h hi⟩
    obtain ⟨e, he⟩ := Classical.axiomOfChoice hE
    exact ⟨⟨some ⟨b, off, none⟩, b, off, len0, cap0, fun i => (e i).1, fun i => (e i).2.1, fun i => (e i).2.2.1, fun i => (e i).2.2.2⟩, rfl, hl, hm, fun _ => rfl, fun _ => hb, fun i hi => (he i (Nat.lt_of_lt_of_le hi hl)).1, fun i hi => (he i (Nat.lt_of_lt_of_le hi hl)).2⟩
  · obtain rfl : len0 = 0 := by omega
    exact ⟨⟨a0, 0, 0, 0, cap0, fun _ => none, fun _ => 0, fun _ => 0, fun _ => []⟩, rfl, hl, hm, fun h => absurd h (Nat.lt_irrefl _), fun h => absurd h (Nat.lt_irrefl _), fun i hi => absurd hi (Nat.not_lt_zero _), fun i hi => absurd hi (Nat.not_lt_zero _)⟩
end
end Go.Proofs.Ytbbcongfaoopcaa
