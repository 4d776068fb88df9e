/- GrantPlays: the row of leases. -/
import Derived.Test.YtifohibpcngakaaD16
namespace Go.Proofs.Ytifohibpcngakaa
open Go.ChangeShapes Go.WideShapes Go.ChangeAt Go.RowKit Go.Maps Go.Deep
set_option linter.unusedVariables false
set_option linter.unusedSimpArgs false
open BigFrame Bs Gr

namespace Gr
theorem OwnL.lt {w : World} {B : Nat} {v : Value} {l : List Int} (h : OwnL w B v l) {q : Nat} (hq : v.ownBlock = some q) : B ≤ q ∧ q < w.heap.size := by
  unfold OwnL at h
  exact h.lt q hq
theorem inner_step {W1 wz w5 : World} {W2s sb j k3 c5 : Nat} {b1 a5 : Option Addr} {g : Nat → Int} {y : Int} {O : Obj} (hS : Blk wz sb [.int .i64 0, .int .i64 0, .int .i64 0, .slice none 0 0, .slice b1 j k3, .slice none 0 0, .slice none 0 0]) (hO : OwnL wz W2s (.slice b1 j k3) ((List.range j).map g)) (hB2 : Below W1.heap.size W1 wz) (hsb : W1.heap.size = sb) (hW2 : W2s = sb + 1)
    (hown : OwnL w5 W2s (.slice a5 (j + 1) c5) ((List.range j).map g ++ [y])) (hg : (wz.alloc O).grownBy w5 (Value.slice b1 j k3).ownBlock) (hsn : (List.range (j + 1)).map g = (List.range j).map g ++ [y]) :
    Blk w5 sb [.int .i64 0, .int .i64 0, .int .i64 0, .slice none 0 0, .slice b1 j k3, .slice none 0 0, .slice none 0 0] ∧ Blk (w5.setCell ⟨sb, 4, none⟩ (.slice a5 (j + 1) c5)) sb [.int .i64 0, .int .i64 0, .int .i64 0, .slice none 0 0, .slice a5 (j + 1) c5, .slice none 0 0, .slice none 0 0] ∧ OwnL (w5.setCell ⟨sb, 4, none⟩ (.slice a5 (j + 1) c5)) W2s (.slice a5 (j + 1) c5) ((List.range (j + 1)).map g) ∧ Below W1.heap.size W1 (w5.setCell ⟨sb, 4, none⟩ (.slice a5 (j + 1) c5)) := by
  have h5 := blk_grown2 hS hg (fun e => by have := (hO.lt e).1; omega)
  refine ⟨h5, h5.set (i := 4) (by simp) _, ?_, ?_⟩
  · rw [hsn]
    exact hown.set (fun e => by have := (hown.lt e).1; omega) _
  · refine Below.setCell ?_ (by show W1.heap.size ≤ sb; omega) _
    refine (hB2.alloc (by have := hB2.size; omega) O).grown hg (by have := hB2.size; simp; omega) (fun q e => ?_)
    have := (hO.lt e).1
    omega
theorem grow_set {wz : World} {W1s sb xb W2s j k3 : Nat} {b1 : Option Addr} {l : List Int} (hO : OwnL wz W2s (.slice b1 j k3) l) (hsb : W1s = sb) (hW2 : W2s = sb + 1) (hl : sb < wz.heap.size) : ∃ Y : List Nat, xb ∈ Y ∧ sb ∈ Y ∧ (∀ q, (Value.slice b1 j k3).ownBlock = some q → q ∈ Y) ∧ (∀ y ∈ Y, y ∈ [xb] ∨ (W1s ≤ y ∧ y < wz.heap.size)) := by
  refine ⟨(Value.slice b1 j k3).ownBlock.toList ++ [sb, xb], by simp, by simp, fun q h => by simp [h], fun y hy => ?_⟩
  rcases List.mem_append.1 hy with h | h
  · have := hO.lt (Option.mem_toList.1 h)
    exact .inr (by omega)
  · rcases List.mem_cons.1 h with e | e
    · exact .inr (by omega)
    · exact .inl e
theorem lss_of {wz : World} {W2s n k3 B : Nat} {b1 : Option Addr} {g : Nat → Int} {Y : List Nat} (hO : OwnL wz W2s (.slice b1 n k3) ((List.range n).map g)) (hwf : ∀ i, i < n → (Lit.int .i64 (g i)).wf = true) (hY : ∀ q, (Value.slice b1 n k3).ownBlock = some q → q ∈ Y) : Lss (mm B Y) wz b1 n g := by
  have q := hO.lss (m := mm B Y) g (fun i hi => by
    have hi' : i < n := by simpa using hi
    exact ⟨by simp [hi'], hwf i hi'⟩) (fun q hq => .inr (hY q hq))
  simpa using q
end Gr
end Go.Proofs.Ytifohibpcngakaa
