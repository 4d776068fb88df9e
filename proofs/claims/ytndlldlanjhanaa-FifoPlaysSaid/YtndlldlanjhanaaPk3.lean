/- The contract of packet.Flow: two ranges over packet.of. -/
import Derived.Test.YtndlldlanjhanaaPk2
namespace Go.Proofs.Ytndlldlanjhanaa
open Go.ChangeShapes Go.WideShapes Go.ChangeAt Go.RowKit Go.Shelf
set_option linter.unusedVariables false
set_option linter.unusedSimpArgs false
attribute [local go_sem] Oper.semAt_some
open Pk BigFrame

namespace Pk
theorem ofs_pre {T : Nat → Int} {t : Int} {k N : Nat} (h : k ≤ N) : ofs T t k <+: ofs T t N := by
  induction N with
  | zero => rw [show k = 0 by omega]; exact List.prefix_refl _
  | succ N ih =>
    by_cases hk : k = N + 1
    · subst hk; exact List.prefix_refl _
    · refine (ih (by omega)).trans ?_
      by_cases g : T N = t
      · rw [ofs_in g]; exact List.prefix_append _ _
      · rw [ofs_out g]; exact List.prefix_refl _
/-- Whose a packet is. -/
def flowI (T : Nat → Int) (N : Nat) (t C : Int) : Int := if (ofs T t N).length = 0 then 0 else if C < 0 then 0 else (((ofs T t N).getD (C.toNat % (ofs T t N).length) 0 : Nat) : Int)
def flowE (T : Nat → Int) (N : Nat) (t C : Int) : Int := if (ofs T t N).length = 0 then 161 else if C < 0 then 2 else 0
theorem mem_ofs {T : Nat → Int} {t : Int} {N x : Nat} : x ∈ ofs T t N ↔ x < N ∧ T x = t := by
  induction N with
  | zero => simp [ofs]
  | succ N ih =>
    unfold ofs
    split
    · rename_i h
      rw [List.mem_append, ih, List.mem_singleton]
      constructor
      · rintro (⟨h1, h2⟩ | rfl)
        · exact ⟨by omega, h2⟩
        · exact ⟨by omega, h⟩
      · rintro ⟨h1, h2⟩
        by_cases hx : x = N
        · exact .inr hx
        · exact .inl ⟨by omega, h2⟩
    · rename_i h
      rw [ih]
      constructor
      · rintro ⟨h1, h2⟩; exact ⟨by omega, h2⟩
      · rintro ⟨h1, h2⟩
        refine ⟨?_, h2⟩
        by_cases hx : x = N
        · subst hx; exact absurd h2 h
        · omega
theorem ofs_at {T : Nat → Int} {t : Int} {k N q x : Nat} {p : List Nat} (hk : k < N) (hp : p ++ [x] = ofs T t (k + 1)) (hq : p.length = q) : (ofs T t N).getD q 0 = x := by
  obtain ⟨r, hr⟩ := ofs_pre (T := T) (t := t) (show k + 1 ≤ N by omega)
  rw [← hr, ← hp]
  simp [List.getD, ← hq]
theorem lt_of_heap {W : World} {D : Nat} {o : Obj} (h : W.heap[D]? = some o) : D < W.heap.size := (Array.getElem?_eq_some_iff.1 h).1
theorem heap_setCell {W : World} {D : Nat} {o : Obj} (a : Addr) (v : Value) (h : W.heap[D]? = some o) (ho : o.isCells = false) : (W.setCell a v).heap[D]? = some o := (KeepsOthers.setCell _ _ _).same D _ h ho
end Pk