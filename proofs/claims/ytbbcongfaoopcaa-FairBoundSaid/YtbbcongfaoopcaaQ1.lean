/- Queues of packets: the state, and the contracts of the small functions. -/
import Derived.Test.YtbbcongfaoopcaaPk6
import Derived.Deep.RegionHeld3
namespace Go.Proofs.Ytbbcongfaoopcaa
open Go.ChangeShapes Go.WideShapes Go.ChangeAt Go.RowKit
set_option linter.unusedVariables false
set_option linter.unusedSimpArgs false
open Pk BigFrame

namespace Fq
/-- A queue in memory. -/
structure QAt (W : World) (qb rb room pos n by_ dr : Nat) : Prop where
  c0 : W.cell? ⟨qb, 0, none⟩ = some (.slice (some ⟨rb, 0, none⟩) room room)
  c1 : W.cell? ⟨qb, 1, none⟩ = some (.int .i64 (pos : Nat))
  c2 : W.cell? ⟨qb, 2, none⟩ = some (.int .i64 (n : Nat))
  c3 : W.cell? ⟨qb, 3, none⟩ = some (.int .i64 (by_ : Nat))
  c4 : W.cell? ⟨qb, 4, none⟩ = some (.int .i64 (dr : Nat))
  f : ∀ o, W.frozen? ⟨qb, o, none⟩ = false
  rf : ∀ o, W.frozen? ⟨rb, o, none⟩ = false
  ne : qb ≠ rb
  rl : rb < W.heap.size
  room1 : 1 ≤ room
  room2 : room ≤ 64
  pos1 : pos < room
  n1 : n ≤ room
  by1 : by_ ≤ 1000000
  dr1 : dr ≤ 1000000
/-- What lies in its ring. -/
def RingAt (W : World) (rb room : Nat) (pk : Nat → Nat → Value) : Prop := ∀ j i, j < room → i < 4 → W.cell? ⟨rb, j * 4 + i, none⟩ = some (pk j i)
theorem QAt.below {W W' : World} {qb rb room pos n by_ dr : Nat} (h : QAt W qb rb room pos n by_ dr) (k : Below W.heap.size W W') : QAt W' qb rb room pos n by_ dr := by
  have hq := World.block_lt_of_cell? _ _ h.c0
  have hr := h.rl
  exact ⟨(k.cell (p := ⟨qb, 0, none⟩) hq).trans h.c0, (k.cell (p := ⟨qb, 1, none⟩) hq).trans h.c1, (k.cell (p := ⟨qb, 2, none⟩) hq).trans h.c2, (k.cell (p := ⟨qb, 3, none⟩) hq).trans h.c3, (k.cell (p := ⟨qb, 4, none⟩) hq).trans h.c4, fun o => (k.frozen (p := ⟨qb, o, none⟩) hq).trans (h.f o), fun o => (k.frozen (p := ⟨rb, o, none⟩) hr).trans (h.rf o), h.ne, Nat.lt_of_lt_of_le hr k.size, h.room1, h.room2, h.pos1, h.n1, h.by1, h.dr1⟩
theorem RingAt.below {W W' : World} {rb room : Nat} {pk : Nat → Nat → Value} (h : RingAt W rb room pk) (hr : rb < W.heap.size) (k : Below W.heap.size W W') : RingAt W' rb room pk := fun j i hj hi => (k.cell (p := ⟨rb, _, none⟩) hr).trans (h j i hj hi)
theorem QAt.set_pos {W : World} {qb rb room pos n by_ dr : Nat} (h : QAt W qb rb room pos n by_ dr) (x : Nat) (hx : x < room) : QAt (W.setCell ⟨qb, 1, none⟩ (.int .i64 (x : Nat))) qb rb room x n by_ dr :=
  ⟨(World.cell?_setCell_other _ _ _ _ (by simp)).trans h.c0, World.cell?_setCell_same _ _ _ h.c1, (World.cell?_setCell_other _ _ _ _ (by simp)).trans h.c2, (World.cell?_setCell_other _ _ _ _ (by simp)).trans h.c3, (World.cell?_setCell_other _ _ _ _ (by simp)).trans h.c4, fun o => (World.frozen?_setCell _ _ _ _).trans (h.f o), fun o => (World.frozen?_setCell _ _ _ _).trans (h.rf o), h.ne, by simpa using h.rl, h.room1, h.room2, hx, h.n1, h.by1, h.dr1⟩
theorem QAt.set_n {W : World} {qb rb room pos n by_ dr : Nat} (h : QAt W qb rb room pos n by_ dr) (x : Nat) (hx : x ≤ room) : QAt (W.setCell ⟨qb, 2, none⟩ (.int .i64 (x : Nat))) qb rb room pos x by_ dr :=
  ⟨(World.cell?_setCell_other _ _ _ _ (by simp)).trans h.c0, (World.cell?_setCell_other _ _ _ _ (by simp)).trans h.c1, World.cell?_setCell_same _ _ _ h.c2, (World.cell?_setCell_other _ _ _ _ (by simp)).trans h.c3, (World.cell?_setCell_other _ _ _ _ (by simp)).trans h.c4, fun o => (World.frozen?_setCell _ _ _ _).trans (h.f o), fun o => (World.frozen?_setCell _ _ _ _).trans (h.rf o), h.ne, by simpa using h.rl, h.room1, h.room2, h.pos1, hx, h.by1, h.dr1⟩
theorem QAt.set_by {W : World} {qb rb room pos n by_ dr : Nat} (h : QAt W qb rb room pos n by_ dr) (x : Nat) (hx : x ≤ 1000000) : QAt (W.setCell ⟨qb, 3, none⟩ (.int .i64 (x : Nat))) qb rb room pos n x dr :=
  ⟨(World.cell?_setCell_other _ _ _ _ (by simp)).trans h.c0, (World.cell?_setCell_other _ _ _ _ (by simp)).trans h.c1, (World.cell?_setCell_other _ _ _ _ (by simp)).trans h.c2, World.cell?_setCell_same _ _ _ h.c3, (World.cell?_setCell_other _ _ _ _ (by simp)).trans h.c4, fun o => (World.frozen?_setCell _ _ _ _).trans (h.f o), fun o => (World.frozen?_setCell _ _ _ _).trans (h.rf o), h.ne, by simpa using h.rl, h.room1, h.room2, h.pos1, h.n1, hx, h.dr1⟩
theorem QAt.set_dr {W : World} {qb rb room pos n by_ dr : Nat} (h : QAt W qb rb room pos n by_ dr) (x : Nat) (hx : x ≤ 1000000) : QAt (W.setCell ⟨qb, 4, none⟩ (.int .i64 (x : Nat))) qb rb room pos n by_ x :=
  ⟨(World.cell?_setCell_other _ _ _ _ (by simp)).trans h.c0, (World.cell?_setCell_other _ _ _ _ (by simp)).trans h.c1, (World.cell?_setCell_other _ _ _ _ (by simp)).trans h.c2, (World.cell?_setCell_other _ _ _ _ (by simp)).trans h.c3, World.cell?_setCell_same _ _ _ h.c4, fun o => (World.frozen?_setCell _ _ _ _).trans (h.f o), fun o => (World.frozen?_setCell _ _ _ _).trans (h.rf o), h.ne, by simpa using h.rl, h.room1, h.room2, h.pos1, h.n1, h.by1, hx⟩
theorem QAt.set_ring {W : World} {qb rb room pos n by_ dr : Nat} (h : QAt W qb rb room pos n by_ dr) (o : Nat) (v : Value) : QAt (W.setCell ⟨rb, o, none⟩ v) qb rb room pos n by_ dr :=
  have e : ∀ k, (W.setCell ⟨rb, o, none⟩ v).cell? ⟨qb, k, none⟩ = W.cell? ⟨qb, k, none⟩ := fun k => World.cell?_setCell_other _ _ _ _ (by have := h.ne; simp <;> omega)
  ⟨(e 0).trans h.c0, (e 1).trans h.c1, (e 2).trans h.c2, (e 3).trans h.c3, (e 4).trans h.c4, fun o => (World.frozen?_setCell _ _ _ _).trans (h.f o), fun o => (World.frozen?_setCell _ _ _ _).trans (h.rf o), h.ne, by simpa using h.rl, h.room1, h.room2, h.pos1, h.n1, h.by1, h.dr1⟩
theorem QAt.drewN {W : World} {qb rb room pos n by_ dr : Nat} (h : QAt W qb rb room pos n by_ dr) (m : Nat) : QAt (W.drewN m) qb rb room pos n by_ dr := h.below (bDrew (Below.refl _ _) m)
theorem QAt.drew {W : World} {qb rb room pos n by_ dr : Nat} (h : QAt W qb rb room pos n by_ dr) : QAt W.drew qb rb room pos n by_ dr := h.below (Below.refl _ _).drew
theorem RingAt.set_q {W : World} {qb rb room : Nat} {pk : Nat → Nat → Value} (h : RingAt W rb room pk) (hne : qb ≠ rb) (o : Nat) (v : Value) : RingAt (W.setCell ⟨qb, o, none⟩ v) rb room pk := fun j i hj hi => (World.cell?_setCell_other _ _ _ _ (by simp <;> omega)).trans (h j i hj hi)
theorem RingAt.drew {W : World} {rb room : Nat} {pk : Nat → Nat → Value} (h : RingAt W rb room pk) (hr : rb < W.heap.size) : RingAt W.drew rb room pk := h.below hr (Below.refl _ _).drew
theorem RingAt.store {W : World} {rb room k : Nat} {pk : Nat → Nat → Value} (h : RingAt W rb room pk) (hk : k < room) (x0 x1 x2 x3 : Value) :
    RingAt ((((W.setCell ⟨rb, k * 4, none⟩ x0).setCell ⟨rb, k * 4 + 1, none⟩ x1).setCell ⟨rb, k * 4 + 2, none⟩ x2).setCell ⟨rb, k * 4 + 3, none⟩ x3) rb room (fun j i => if j = k then (#[x0, x1, x2, x3] : Array Value).getD i undef else pk j i) := by
  have o : ∀ (U : World) (x y : Nat) (v : Value), x ≠ y → (U.setCell ⟨rb, y, none⟩ v).cell? ⟨rb, x, none⟩ = U.cell? ⟨rb, x, none⟩ := fun U x y v hxy => World.cell?_setCell_other _ _ _ _ (by simp <;> omega)
  intro j i hj hi
  by_cases hjk : j = k
  · subst hjk
    simp only [if_true]
    have h0 := h j 0 hj (by omega)
    have h1 := h j 1 hj (by omega)
    have h2 := h j 2 hj (by omega)
    have h3 := h j 3 hj (by omega)
    rw [Nat.add_zero] at h0
    have : i = 0 ∨ i = 1 ∨ i = 2 ∨ i = 3 := by omega
    rcases this with rfl | rfl | rfl | rfl
    · rw [Nat.add_zero, o _ _ _ _ (by omega), o _ _ _ _ (by omega), o _ _ _ _ (by omega)]; exact World.cell?_setCell_same _ _ _ h0
    · rw [o _ _ _ _ (by omega), o _ _ _ _ (by omega)]; exact World.cell?_setCell_same _ _ _ ((o _ _ _ _ (by omega)).trans h1)
    · rw [o _ _ _ _ (by omega)]; exact World.cell?_setCell_same _ _ _ ((o _ _ _ _ (by omega)).trans ((o _ _ _ _ (by omega)).trans h2))
    · exact World.cell?_setCell_same _ _ _ ((o _ _ _ _ (by omega)).trans ((o _ _ _ _ (by omega)).trans ((o _ _ _ _ (by omega)).trans h3)))
  · show _ = some (if j = k then _ else pk j i)
    rw [if_neg hjk, o _ _ _ _ (by omega), o _ _ _ _ (by omega), o _ _ _ _ (by omega), o _ _ _ _ (by omega)]
    exact h j i hj hi
end Fq
open Fq