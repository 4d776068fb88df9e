/- Virtual time: two flows of one weight. -/
import Derived.Test.YtbbcongfaoopcaaV8
namespace Go.Proofs.Ytbbcongfaoopcaa
open Go.ChangeShapes Go.WideShapes Go.ChangeAt Go.RowKit
set_option linter.unusedVariables false
set_option linter.unusedSimpArgs false
open BigFrame Vr Pk Fq

namespace Vr
theorem blk_new (u : World) (x y : Value) (t : TypeId) : Blk (u.alloc (.cells #[x, y] t)) u.heap.size [x, y] := ⟨fun i z hz => by
    rcases i with _ | _ | i
    · simp at hz; subst hz; go_simp
    · simp at hz; subst hz; go_simp
    · simp at hz, fun o => by go_simp, by simp⟩
theorem cost_two : costI 100 1 2 = 144144000 := by unfold costI; rw [if_neg (by omega)]; rfl
def z2 : Nat → Int := fun _ => 0
def s2 : Nat → Int := fun _ => 0
def f1 : Nat → Int := fun i => if i = 0 then 144144000 else 0
def f2 : Nat → Int := fun i => if i ≤ 1 then 144144000 else 0
theorem tag_one : tagR 0 2 z2 z2 0 144144000 (max (z2 (0 : Int).toNat) 0) = ⟨0, 2, z2, f1, 0⟩ := by
  unfold tagR
  rw [if_pos ⟨⟨by omega, by omega, by omega, fun i hi => by unfold z2; omega⟩, by omega, by omega, by omega, by unfold z2; simp⟩]
  congr 1
  · funext i; unfold z2; simp
theorem tag_two : tagR 0 2 z2 f1 1 144144000 (max (f1 (1 : Int).toNat) 0) = ⟨0, 2, z2, f2, 0⟩ := by
  unfold tagR
  rw [if_pos ⟨⟨by omega, by omega, by omega, fun i hi => by unfold z2 f1; split <;> omega⟩, by omega, by omega, by omega, by unfold f1; simp⟩]
  congr 1
  · funext i; unfold z2 f1; simp
  · funext i; unfold f1 f2
    simp
    by_cases h : i = 1
    · subst h; simp
    · by_cases h0 : i = 0
      · subst h0; simp
      · rw [if_neg h, if_neg h0, if_neg (by omega)]
theorem pick_two : pickR 0 2 z2 f2 2 (fun _ => true) = ⟨0, 2, z2, f2, 0, true⟩ := by
  have h1 : leastK z2 (fun _ => true) 2 = 0 := by simp [leastK, z2]
  unfold pickR
  rw [if_pos ⟨⟨by omega, by omega, by omega, fun i hi => by unfold z2 f2; rw [if_pos (by omega)]; omega⟩, rfl, by rw [h1]; omega⟩, h1]
  congr 1
theorem ok_two : VOk 0 2 z2 f2 := ⟨by omega, by omega, by omega, fun i hi => by unfold z2 f2; rw [if_pos (by omega)]; omega⟩
end Vr