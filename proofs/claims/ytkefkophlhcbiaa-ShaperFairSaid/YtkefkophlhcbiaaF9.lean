/- The scheduler: what is told of a flow's head. -/
import Derived.Test.YtkefkophlhcbiaaF8
namespace Go.Proofs.Ytkefkophlhcbiaa
open Go.ChangeShapes Go.WideShapes Go.ChangeAt Go.RowKit Go.Maps
set_option linter.unusedVariables false
set_option linter.unusedSimpArgs false
open BigFrame Pk Fq Vr Fa

namespace Fa
/-- The boxes of hear. -/
structure Bx3 (u : World) (q f k : Nat) (n : Int) : Prop where
  b0 : Blk u q [.pointer (some ⟨f, 0, none⟩)]
  b1 : Blk u (q + 1) [.int .i64 (k : Nat)]
  b2 : Blk u (q + 1 + 1) [.int .i64 n]
structure Bx (u : World) (q f k lb : Nat) (n : Int) : Prop where
  b : Bx3 u q f k n
  b3 : Blk u (q + 1 + 1 + 1) [.pointer (some ⟨lb, k * 3, none⟩)]
theorem Bx3.bel {u u' : World} {q f k : Nat} {n : Int} (h : Bx3 u q f k n) (K : Below u.heap.size u u') : Bx3 u' q f k n :=
  ⟨h.b0.bel K, h.b1.bel K, h.b2.bel K⟩
theorem Bx.bel {u u' : World} {q f k lb : Nat} {n : Int} (h : Bx u q f k lb n) (K : Below u.heap.size u u') : Bx u' q f k lb n :=
  ⟨h.b.bel K, h.b3.bel K⟩
theorem Bx.kf {u u' : World} {q f k lb : Nat} {n : Int} {l : List Nat} (h : Bx u q f k lb n) (K : KF l u u') (hl : ∀ i, i ∈ l → i < q) : Bx u' q f k lb n :=
  ⟨⟨K.blk h.b.b0 (fun e => by have := hl _ e; omega), K.blk h.b.b1 (fun e => by have := hl _ e; omega), K.blk h.b.b2 (fun e => by have := hl _ e; omega)⟩, K.blk h.b3 (fun e => by have := hl _ e; omega)⟩
theorem bx3_new (w : World) (f k : Nat) (n : Int) (t1 t2 t3 : TypeId) :
    Bx3 (((w.alloc (.cells #[.pointer (some ⟨f, 0, none⟩)] t1)).alloc (.cells #[.int .i64 (k : Nat)] t2)).alloc (.cells #[.int .i64 n] t3)) w.heap.size f k n ∧
    Below w.heap.size w (((w.alloc (.cells #[.pointer (some ⟨f, 0, none⟩)] t1)).alloc (.cells #[.int .i64 (k : Nat)] t2)).alloc (.cells #[.int .i64 n] t3)) ∧
    (((w.alloc (.cells #[.pointer (some ⟨f, 0, none⟩)] t1)).alloc (.cells #[.int .i64 (k : Nat)] t2)).alloc (.cells #[.int .i64 n] t3)).heap.size = w.heap.size + 1 + 1 + 1 := by
  have a0 := blkN_new w [.pointer (some ⟨f, 0, none⟩)] t1
  have a1 := blkN_new (w.alloc (.cells #[.pointer (some ⟨f, 0, none⟩)] t1)) [.int .i64 (k : Nat)] t2
  have a2 := blkN_new ((w.alloc (.cells #[.pointer (some ⟨f, 0, none⟩)] t1)).alloc (.cells #[.int .i64 (k : Nat)] t2)) [.int .i64 n] t3
  simp only [World.size_alloc] at a1 a2
  have c1 := ((Below.refl w.heap.size w).alloc (Nat.le_refl _) (.cells #[.pointer (some ⟨f, 0, none⟩)] t1))
  have c2 := ((Below.refl (w.alloc (.cells #[.pointer (some ⟨f, 0, none⟩)] t1)).heap.size (w.alloc (.cells #[.pointer (some ⟨f, 0, none⟩)] t1))).alloc (Nat.le_refl _) (.cells #[.int .i64 (k : Nat)] t2))
  have c3 := ((Below.refl ((w.alloc (.cells #[.pointer (some ⟨f, 0, none⟩)] t1)).alloc (.cells #[.int .i64 (k : Nat)] t2)).heap.size ((w.alloc (.cells #[.pointer (some ⟨f, 0, none⟩)] t1)).alloc (.cells #[.int .i64 (k : Nat)] t2))).alloc (Nat.le_refl _) (.cells #[.int .i64 n] t3))
  exact ⟨⟨(a0.bel c2).bel c3, a1.bel c3, a2⟩, bNext (bNext c1 c2 (Nat.le_refl _)) c3 (Nat.le_refl _), by simp⟩
/-- All that hear stands on, behind its first two regions. -/
theorem bx_new {w3 : World} {q f k lb : Nat} {n : Int} (h : Bx3 w3 q f k n) (hs : w3.heap.size = q + 1 + 1 + 1) (t : TypeId) : Bx (w3.alloc (.cells #[.pointer (some ⟨lb, k * 3, none⟩)] t)).drew q f k lb n ∧ Below w3.heap.size w3 (w3.alloc (.cells #[.pointer (some ⟨lb, k * 3, none⟩)] t)).drew := by
  have c : Below w3.heap.size w3 (w3.alloc (.cells #[.pointer (some ⟨lb, k * 3, none⟩)] t)).drew := ((Below.refl w3.heap.size w3).alloc (by simp) _).drew
  have a := (blkN_new w3 [.pointer (some ⟨lb, k * 3, none⟩)] t).drew
  rw [hs] at a
  exact ⟨⟨h.bel c, a⟩, c⟩
/-- What becomes of a flow's start and finish. -/
def hrF1 (s f z n : Int) (d : Bool) : Int := if 0 < z ∧ d = false ∧ z ≠ n then s else f
def hrS (V s f z n c : Int) (d : Bool) : Int := if n = 0 then s else if d then hrF1 s f z n d else if z ≠ n then max (hrF1 s f z n d) V else s
def hrF (V s f z n c : Int) (d : Bool) : Int := if n = 0 then hrF1 s f z n d else if d then hrF1 s f z n d + c else if z ≠ n then max (hrF1 s f z n d) V + c else hrF1 s f z n d
theorem up_up (S : Nat → Int) (k : Nat) (x y : Int) : up (up S k x) k y = up S k y := funext fun i => by unfold up; split <;> rfl
theorem up_same (S : Nat → Int) (k : Nat) : up S k (S k) = S := funext fun i => by
  unfold up
  split
  · rename_i e; rw [e]
  · rfl
theorem up_at (S : Nat → Int) (k : Nat) (x : Int) : up S k x k = x := by simp [up]
theorem rowF_set (W Z : Nat → Int) (D : Nat → Bool) (k : Nat) (z : Int) (d : Bool) : ∀ N, k < N → ((rowF W Z D N).set (k * 3 + 1) (.int .i64 z)).set (k * 3 + 2) (.bool d) = rowF W (up Z k z) (upb D k d) N
  | 0, h => by omega
  | N + 1, h => by
    rw [rowF_succ, rowF_succ]
    by_cases e : k = N
    · subst e
      rw [List.set_append_right _ _ (by rw [rowF_len]; omega), List.set_append_right _ _ (by rw [rowF_len]; omega), rowF_len]
      have : rowF W (up Z k z) (upb D k d) k = rowF W Z D k := by
        unfold rowF
        rw [List.flatMap_def, List.flatMap_def]
        congr 1
        refine List.map_congr_left fun i hi => ?_
        have : i ≠ k := by have := List.mem_range.1 hi; omega
        simp [flC, up, upb, this]
      rw [this, show k * 3 + 1 - k * 3 = 1 by omega, show k * 3 + 2 - k * 3 = 2 by omega]
      simp [flC, up, upb]
    · have h1 := rowF_set W Z D k z d N (by omega)
      rw [List.set_append_left _ _ (by rw [rowF_len]; omega), List.set_append_left _ _ (by rw [List.length_set, rowF_len]; omega), h1]
      have : N ≠ k := fun q => e q.symm
      simp [flC, up, upb, this]
theorem FD.setRow {w : World} {f lb cl tb ct N k : Nat} {ALL V : Int} {W Z : Nat → Int} {D : Nat → Bool} {S F : Nat → Int} (h : FD w f lb cl tb ct N ALL V W Z D S F) (hk : k < N) (z : Int) (d : Bool) :
    FD ((w.setCell ⟨lb, k * 3 + 1, none⟩ (.int .i64 z)).setCell ⟨lb, k * 3 + 2, none⟩ (.bool d)) f lb cl tb ct N ALL V W (up Z k z) (upb D k d) S F :=
  ⟨(h.b.other h.a1 _).other h.a1 _, by
    have h1 := (h.l.set (i := k * 3 + 1) (by rw [rowF_len]; omega) (.int .i64 z)).set (i := k * 3 + 2) (by rw [List.length_set, rowF_len]; omega) (.bool d)
    rw [rowF_set W Z D k z d N hk] at h1
    exact h1, (h.t.set_other (fun _ => by have := h.a3; omega) _).set_other (fun _ => by have := h.a3; omega) _, h.a1, h.a2, h.a3, h.n1, h.n8⟩
end Fa

end Go.Proofs.Ytkefkophlhcbiaa
