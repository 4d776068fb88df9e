/- How an argument of type []api.Message is opened. -/
import Derived.Test.YthahlfabcjnkhaaVoteNewer
namespace Go.Proofs.Ythahlfabcjnkhaa
open Go.ChangeShapes Go.WideShapes Go.ChangeAt Go.RowKit
set_option linter.unusedVariables false
set_option linter.unusedSimpArgs false
open Rw Vt

/-- What is told of messages that came in: one behind the other. -/
structure XT_LMessage where
  a : Option Addr
  n : Nat
  cap : Nat
  ms : Nat → Msg
def Is_LMessage (w : World) (v : Value) (x : XT_LMessage) : Prop :=
  v = .slice x.a x.n x.cap ∧ x.n ≤ x.cap ∧ x.cap ≤ maxLen ∧ (0 < x.n → ∃ b off, x.a = some ⟨b, off, none⟩ ∧ b < w.heap.size ∧ ∀ i, i < x.n → ∀ j u, (match (x.ms i).val with | .agg cs => cs.toList[j]? | _ => none) = some u → w.cell? ⟨b, off + i * 14 + j, none⟩ = some u)
section
variable {H : Type} {enc : TypeId × Value → H} {w : World}
set_option maxRecDepth 100000 in
theorem open_LMessage {r : Reach} {b0 : Nat} {v : Value} {d : DataW H} {p : List MemPlace} (hv : Value.okWide Try.prog w r b0 67 v) (h : DataW.Trod enc Try.prog w 0 (fun _ => true) true 67 v d p) : ∃ x, Is_LMessage w v x := by
  obtain ⟨a0, len0, cap0, rfl⟩ := okWide_slice Try.underlying67 hv
  obtain ⟨fuel, hf⟩ := h
  have k14 : Try.prog.cellsOf 61 = 14 := by kernel_rfl
  obtain ⟨a, len, cap, he, hl, hm, hrow⟩ := open_rowsN (u := .slice a0 len0 cap0) Try.underlying67 hf (by rw [k14]; omega)
  cases he
  rw [k14] at hrow
  by_cases hp : 0 < len0
  · obtain ⟨b, off, V, n, rfl, hb, hV⟩ := hrow hp
    have hE : ∀ i, ∃ x : Msg, i < cap0 → x.val = .agg (V i).toArray := fun i => by
      by_cases hi : i < cap0
      · obtain ⟨q1, _, z, q3⟩ := hV i hi
        obtain ⟨x, _, q5, _⟩ := open_msg q1 q3
        exact ⟨x, fun _ => q5⟩
      · exact ⟨zeroMsg, fun h => absurd h hi⟩
    obtain ⟨e, he⟩ := Classical.axiomOfChoice hE
    refine ⟨⟨some ⟨b, off, none⟩, len0, cap0, e⟩, rfl, hl, hm, fun _ => ⟨b, off, rfl, hb, fun i hi j u hu => ?_⟩⟩
    have hi' : i < cap0 := by simp only at hi; omega
    obtain ⟨_, q2, _⟩ := hV i hi'
    simp only at hu
    rw [he i hi'] at hu
    rw [Nat.add_assoc]
    exact q2 j u (by simpa using hu)
  · exact ⟨⟨a0, len0, cap0, fun _ => zeroMsg⟩, rfl, hl, hm, fun h => absurd h hp⟩
end
end Go.Proofs.Ythahlfabcjnkhaa
