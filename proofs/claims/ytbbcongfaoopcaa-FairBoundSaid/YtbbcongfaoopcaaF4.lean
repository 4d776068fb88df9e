/- The scheduler: New. -/
import Derived.Test.YtbbcongfaoopcaaF3
namespace Go.Proofs.Ytbbcongfaoopcaa
open Go.ChangeShapes Go.WideShapes Go.ChangeAt Go.RowKit Go.Maps
set_option linter.unusedVariables false
set_option linter.unusedSimpArgs false
open BigFrame Pk Fq Vr Fa

namespace Fa
def sumW (g : Nat → Int) : Nat → Int
  | 0 => 0
  | n + 1 => sumW g n + g n
def nz : Nat → Int := fun _ => 0
def nd : Nat → Bool := fun _ => false
theorem sumW_b {g : Nat → Int} {N : Nat} (h : ∀ i, i < N → 1 ≤ g i ∧ g i ≤ 16) : ∀ n, n ≤ N → (n : Int) ≤ sumW g n ∧ sumW g n ≤ 16 * (n : Int)
  | 0, _ => ⟨by simp [sumW], by simp [sumW]⟩
  | n + 1, hn => by
    have h1 := sumW_b h n (by omega)
    have h2 := h n (by omega)
    simp only [sumW]
    push_cast
    omega
def NewF (N : Nat) (g : Nat → Int) (w : World) (e : Ending) (w' : World) : Prop :=
  ∃ f lb cl tb ct, e = .returned (.tuple #[.pointer (some ⟨f, 0, none⟩), .int .i64 0]) ∧ FD w' f lb cl tb ct N (sumW g N) 0 g nz nd nz nz ∧ w.heap.size ≤ f ∧ w.heap.size ≤ lb ∧ w.heap.size ≤ tb ∧ Below w.heap.size w w'
theorem new_step {W1 wr w5 : World} {f i k c5 : Nat} {lv a5 : Option Addr} {g : Nat → Int} {s s2 V : Int} {T : Value} {O : Obj} (hS : Blk wr f [.slice lv i k, .int .i64 s, .int .i64 V, T]) (hO : OwnF wr (f + 1) (.slice lv i k) g nz nd i) (hB2 : Below f W1 wr) (hf : f < W1.heap.size)
    (hown : OwnF w5 (f + 1) (.slice a5 (i + 1) c5) g nz nd (i + 1)) (hsz : w5.heap.size ≥ (wr.alloc O).heap.size) (hg : (wr.alloc O).grownBy w5 (Value.slice lv i k).ownBlock) :
    Blk w5 f [.slice lv i k, .int .i64 s, .int .i64 V, T] ∧ Blk (w5.setCell ⟨f, 0, none⟩ (.slice a5 (i + 1) c5)) f [.slice a5 (i + 1) c5, .int .i64 s, .int .i64 V, T] ∧ Blk ((w5.setCell ⟨f, 0, none⟩ (.slice a5 (i + 1) c5)).setCell ⟨f, 1, none⟩ (.int .i64 s2)) f [.slice a5 (i + 1) c5, .int .i64 s2, .int .i64 V, T] ∧
    OwnF ((w5.setCell ⟨f, 0, none⟩ (.slice a5 (i + 1) c5)).setCell ⟨f, 1, none⟩ (.int .i64 s2)) (f + 1) (.slice a5 (i + 1) c5) g nz nd (i + 1) ∧ Below f W1 ((w5.setCell ⟨f, 0, none⟩ (.slice a5 (i + 1) c5)).setCell ⟨f, 1, none⟩ (.int .i64 s2)) := by
  have hO' := hO
  unfold OwnF at hO'
  have h5 : Blk w5 f [.slice lv i k, .int .i64 s, .int .i64 V, T] := hS.grown hO' hg (by omega) (by simp at hsz; omega)
  have h6 := h5.set (i := 0) (by simp) (.slice a5 (i + 1) c5)
  have hq : (Value.slice a5 (i + 1) c5).ownBlock ≠ some f := fun e => by have := (hown.lt e).1; omega
  refine ⟨h5, h6, h6.set (i := 1) (by simp) _, (hown.set hq _).set hq _, ?_⟩
  refine Below.setCell (p := ⟨f, 1, none⟩) (Below.setCell (p := ⟨f, 0, none⟩) ?_ (Nat.le_refl _) _) (Nat.le_refl _) _
  have := hB2.size
  refine (hB2.alloc (by omega) O).grown hg (by simp; omega) (fun q e => ?_)
  have := (hO.lt e).1
  omega
end Fa
end Go.Proofs.Ytbbcongfaoopcaa
