/- Queues of packets: the state, and the contracts of the small functions. -/
import Derived.Test.YtkefkophlhcbiaaPk6
import Derived.Deep.RegionHeld3
namespace Go.Proofs.Ytkefkophlhcbiaa
open Go.ChangeShapes Go.WideShapes Go.ChangeAt Go.RowKit
set_option linter.unusedVariables false
set_option linter.unusedSimpArgs false
open Pk BigFrame

namespace Fq
/-- A queue in memory. -/
structure QAt (W : World) (qb rb room pos n by_ dr : Nat) : Prop where
  c0 : W.cell? ⟨qb, 0, none⟩ = some (.slice (some ⟨rb, 0, none⟩) room room)
  c1 : W.cell? ⟨qb, 1, none⟩ = some (.int .i64 (pos : Nat))
  c2 : W.cell? ⟨qb, 2, none⟩ = some (.int .i64 (n : Nat))
  c3 : W.cell? ⟨qb, 3, none⟩ = some (.int .i64 (by_ : Nat))
  c4 : W.cell? ⟨qb, 4, none⟩ = some (.int .i64 (dr : Nat))
  f : ∀ o, W.frozen? ⟨qb, o, none⟩ = false
  rf : ∀ o, W.frozen? ⟨rb, o, none⟩ = false
  ne : qb ≠ rb
  rl : rb < W.heap.size
  room1 : 1 ≤ room
  room2 : room ≤ 64
  pos1 : pos < room
  n1 : n ≤ room
  by1 : by_ ≤ 1000000
  dr1 : dr ≤ 1000000
/-- What lies in its ring. -/
def RingAt (W : World) (rb room : Nat) (pk : Nat → Nat → Value) : Prop := ∀ j i, j < room → i < 4 → W.cell? ⟨rb, j * 4 + i, none⟩ = some (pk j i)
theorem QAt.below {W W' : World} {qb rb room pos n by_ dr : Nat} (h : QAt W qb rb room pos n by_ dr) (k : Below W.heap.size W W') : QAt W' qb rb room pos n by_ dr := by
  have hq := World.block_lt_of_cell? _ _ h.c0
  have hr := h.rl
  exact ⟨(k.cell (p := ⟨qb, 0, none⟩) hq).trans h.c0, (k.cell (p := ⟨qb, 1, none⟩) hq).trans h.c1, (k.cell (p := ⟨qb, 2, none⟩) hq).trans h.c2, (k.cell (p := ⟨qb, 3, none⟩) hq).trans h.c3, (k.cell (p := ⟨qb, 4, none⟩) hq).trans h.c4, fun o => (k.frozen (p := ⟨qb, o, none⟩) hq).trans (h.f o), fun o => (k.frozen (p := ⟨rb, o, none⟩) hr).trans (h.rf o), h.ne, Nat.lt_of_lt_of_le hr k.size, h.room1, h.room2, h.pos1, h.n1, h.by1, h.dr1⟩
theorem RingAt.below {W W' : World} {rb room : Nat} {pk : Nat → Nat → Value} (h : RingAt W rb room pk) (hr : rb < W.heap.size) (k : Below W.heap.size W W') : RingAt W' rb room pk := fun j i hj hi => (k.cell (p := ⟨rb, _, none⟩) hr).trans (h j i hj hi)
theorem QAt.set_pos {W : World} {qb rb room pos n by_ dr : Nat} (h : QAt W qb rb room pos n by_ dr) (x : Nat) (hx : x < room) : QAt (W.setCell ⟨qb, 1, none⟩ (.int .i64 (x : Nat))) qb rb room x n by_ dr :=
  ⟨(World.cell?_setCell_other _ _ _ _ (by simp)).trans h.c0, World.cell?_setCell_same _ _ _ h.c1, (World.cell?_setCell_other _ _ _ _ (by simp)).trans h.c2, (World.cell?_setCell_other _ _ _ _ (by simp)).trans h.c3, (World.cell?_setCell_other _ _ _ _ (by simp)).trans h.c4, fun o => (World.frozen?_setCell _ _ _ _).trans (h.f o), fun o => (World.frozen?_setCell _ _ _ _).trans (h.rf o), h.ne, by simpa using h.rl, h.room1, h.room2, hx, h.n1, h.by1, h.dr1⟩
theorem QAt.set_n {W : World} {qb rb room pos n by_ dr : Nat} (h : QAt W qb rb room pos n by_ dr) (x : Nat) (hx : x ≤ room) : QAt (W.setCell ⟨qb, 2, none⟩ (.int .i64 (x : Nat))) qb rb room pos x by_ dr :=
  ⟨(World.cell?_setCell_other _ _ _ _ (by simp)).trans h.c0, (World.cell?_setCell_other _ _ _ _ (by simp)).trans h.c1, World.cell?_setCell_same _ _ _ h.c2, (World.cell?_setCell_other _ _ _ _ (by simp)).trans h.c3, (World.cell?_setCell_other _ _ _ _ (by simp)).trans h.c4, fun o => (World.frozen?_setCell _ _ _ _).trans (h.f o), fun o => (World.frozen?_setCell _ _ _ _).trans (h.rf o), h.ne, by simpa using h.rl, h.room1, h.room2, h.pos1, hx, h.by1, h.dr1⟩
theorem QAt.set_by {W : World} {qb rb room pos n by_ dr : Nat} (h : QAt W qb rb room pos n by_ dr) (x : Nat) (hx : x ≤ 1000000) : QAt (W.setCell ⟨qb, 3, none⟩ (.int .i64 (x : Nat))) qb rb room pos n x dr :=
  ⟨(World.cell?_setCell_other _ _ _ _ (by simp)).trans h.c0, (World.cell?_setCell_other _ _ _ _ (by simp)).trans h.c1, (World.cell?_setCell_other _ _ _ _ (by simp)).trans h.c2, World.cell?_setCell_same _ _ _ h.c3, (World.cell?_setCell_other _ _ _ _ (by simp)).trans h.c4, fun o => (World.frozen?_setCell _ _ _ _).trans (h.f o), fun o => (World.frozen?_setCell _ _ _ _).trans (h.rf o), h.ne, by simpa using h.rl, h.room1, h.room2, h.pos1, h.n1, hx, h.dr1⟩
theorem QAt.set_dr {W : World} {qb rb room pos n by_ dr : Nat} (h : QAt W qb rb room pos n by_ dr) (x : Nat) (hx : x ≤ 1000000) : QAt (W.setCell ⟨qb, 4, none⟩ (.int .i64 (x : Nat))) qb rb room pos n by_ x :=
  ⟨(World.cell?_setCell_other _ _ _ _ (by simp)).trans h.c0, (World.cell?_setCell_other _ _ _ _ (by simp)).trans h.c1, (World.cell?_setCell_other _ _ _ _ (by simp)).trans h.c2, (World.cell?_setCell_other _ _ _ _ (by simp)).trans h.c3, World.cell?_setCell_same _ _ _ h.c4, fun o => (World.frozen?_setCell _ _ _ _).trans (h.f o), fun o => (World.frozen?_setCell _ _ _ _).trans (h.rf o), h.ne, by simpa using h.rl, h.room1, h.room2, h.pos1, h.n1, h.by1, hx⟩
theorem QAt.set_ring {W : World} {qb rb room pos n by_ dr : Nat} (h : QAt W qb rb room pos n by_ dr) (o : Nat) (v : Value) : QAt (W.setCell ⟨rb, o, none⟩ v) qb rb room pos n by_ dr :=
  have e : ∀ k, (W.setCell ⟨rb, o, none⟩ v).cell? ⟨qb, k, none⟩ = W.cell? ⟨qb, k, none⟩ := fun k => World.cell?_setCell_other _ _ _ _ (by have := h.ne; simp <;> omega)
  ⟨(e 0).trans h.c0, (e 1).trans h.c1, (e 2).trans h.c2, (e 3).trans h.c3, (e 4).trans h.c4, fun o => (World.frozen?_setCell _ _ _ _).trans (h.f o), fun o => (World.frozen?_setCell _ _ _ _).trans (h.rf o), h.ne, by simpa using h.rl, h.room1, h.room2, h.pos1, h.n1, h.by1, h.dr1⟩
theorem QAt.drewN {W : World} {qb rb room pos n by_ dr : Nat} (h : QAt W qb rb room pos n by_ dr) (m : Nat) : QAt (W.drewN m) qb rb room pos n by_ dr := h.below (bDrew (Below.refl _ _) m)
theorem QAt.drew {W : World} {qb rb room pos n by_ dr : Nat} (h : QAt W qb rb room pos n by_ dr) : QAt W.drew qb rb room pos n by_ dr := h.below (Below.refl _ _).drew
theorem RingAt.set_q {W : World} {qb rb room : Nat} {pk : Nat → Nat → Value} (h : RingAt W rb room pk) (hne : qb ≠ rb) (o : Nat) (v : Value) : RingAt (W.setCell ⟨qb, o, none⟩ v) rb room pk := fun j i hj hi => (World.cell?_setCell_other _ _ _ _ (by simp <;> omega)).trans (h j i hj hi)
theorem RingAt.drew {W : World} {rb room : Nat} {pk : Nat → Nat → Value} (h : RingAt W rb room pk) (hr : rb < W.heap.size) : RingAt W.drew rb room pk := h.below hr (Below.refl _ _).drew
theorem RingAt.store {W : World} {rb room k : Nat} {pk : Nat → Nat → Value} (h : RingAt W rb room pk) (hk : k < room) (x0 x1 x2 x3 : Value) :
    RingAt ((((W.setCell ⟨rb, k * 4, none⟩ x0).setCell ⟨rb, k * 4 + 1, none⟩ x1).setCell ⟨rb, k * 4 + 2, none⟩ x2).setCell ⟨rb, k * 4 + 3, none⟩ x3) rb room (fun j i => if j = k then (#[x0, x1, x2, x3] : Array Value).getD i undef else pk j i) := by
  have o : ∀ (U : World) (x y : Nat) (v : Value), x ≠ y → (U.setCell ⟨rb, y, none⟩ v).cell? ⟨rb, x, none⟩ = U.cell? ⟨rb, x, none⟩ := fun U x y v hxy => World.cell?_setCell_other _ _ _ _ (by simp <;> omega)
  intro j i hj hi
  by_cases hjk : j = k
  · subst hjk
    simp only [if_true]
    have h0 := h j 0 hj (by omega)
    have h1 := h j 1 hj (by omega)
    have h2 := h j 2 hj (by omega)
    have h3 := h j 3 hj (by omega)
    rw [Nat.add_zero] at h0
    have : i = 0 ∨ i = 1 ∨ i = 2 ∨ i = 3 := by omega
    rcases this with rfl | rfl | rfl | rfl
    · rw [Nat.add_zero, o _ _ _ _ (by omega), o _ _ _ _ (by omega), o _ _ _ _ (by omega)]; exact World.cell?_setCell_same _ _ _ h0
    · rw [o _ _ _ _ (by omega), o _ _ _ _ (by omega)]; exact World.cell?_setCell_same _ _ _ ((o _ _ _ _ (by omega)).trans h1)
    · rw [o _ _ _ _ (by omega)]; exact World.cell?_setCell_same _ _ _ ((o _ _ _ _ (by omega)).trans ((o _ _ _ _ (by omega)).trans h2))
    · exact World.cell?_setCell_same _ _ _ ((o _ _ _ _ (by omega)).trans ((o _ _ _ _ (by omega)).trans ((o _ _ _ _ (by omega)).trans h3)))
  · show _ = some (if j = k then _ else pk j i)
    rw [if_neg hjk, o _ _ _ _ (by omega), o _ _ _ _ (by omega), o _ _ _ _ (by omega), o _ _ _ _ (by omega)]
    exact h j i hj hi
end Fq
open Fq

set_option maxRecDepth 100000 in
set_option maxHeartbeats 2000000 in
theorem qsize_c (num t C : Int) (a : Option Addr) (n cap : Nat) (w : World) (hn : n ≤ 1000000) :
    Calls Try.prog 42 #[.agg #[.int .i64 num, .int .i64 t, .int .i64 C, .slice a n cap]] w fun e w' => e = .returned (.int .i64 (8 + (n : Int))) ∧ Below w.heap.size w w' := by
  have h : (n : Int) ≤ 1000000 := by omega
  go_enter Try.func42, Try.ntmps42
  go_wp2_with fail
  exact bodyPost_ret (v := .int .i64 (8 + (n : Int))) (by simp [results, Try.results42, go_sem]) rfl ⟨rfl, (Below.refl _ _).alloc (Nat.le_refl _) _⟩

set_option maxRecDepth 100000 in
set_option maxHeartbeats 2000000 in
theorem qlen_c (qb rb room pos n by_ dr : Nat) (w : World) (h : QAt w qb rb room pos n by_ dr) :
    Calls Try.prog 36 #[.pointer (some ⟨qb, 0, none⟩)] w fun e w' => e = .returned (.int .i64 (n : Nat)) ∧ w' = w := by
  have c2 := h.c2
  go_enter Try.func36, Try.ntmps36
  go_wp2_with fail
  go_ret
  exact ⟨rfl, rfl⟩

set_option maxRecDepth 100000 in
set_option maxHeartbeats 2000000 in
theorem qbytes_c (qb rb room pos n by_ dr : Nat) (w : World) (h : QAt w qb rb room pos n by_ dr) :
    Calls Try.prog 30 #[.pointer (some ⟨qb, 0, none⟩)] w fun e w' => e = .returned (.int .i64 (by_ : Nat)) ∧ w' = w := by
  have c3 := h.c3
  go_enter Try.func30, Try.ntmps30
  go_wp2_with fail
  go_ret
  exact ⟨rfl, rfl⟩

set_option maxRecDepth 100000 in
theorem eql_nil (u : World) : Sem.run Try.prog (binOp BinOp.eql 34 (.slice none 0 0) (.slice none 0 0)) u = .ok (.bool true) u := by rfl
set_option maxRecDepth 100000 in
theorem eql_some (a : Addr) (l c : Nat) (u : World) : Sem.run Try.prog (binOp BinOp.eql 34 (.slice (some a) l c) (.slice none 0 0)) u = .ok (.bool false) u := by rfl
attribute [local go_sem] eql_nil eql_some

set_option maxRecDepth 100000 in
set_option maxHeartbeats 2000000 in
/-- A load that is nil is copied as it is. -/
theorem clone_nil (w : World) :
    Calls Try.prog 54 #[.slice none 0 0] w fun e w' => e = .returned (.slice none 0 0) ∧ w' = w := by
  go_enter Try.func54, Try.ntmps54
  go_wp2_with fail
  go_ret
  exact ⟨rfl, rfl⟩

set_option maxRecDepth 100000 in
set_option maxHeartbeats 2000000 in
/-- Another one lies in new memory. -/
theorem clone_some (b o n cap : Nat) (f : Nat → Nat) (w : World) (hn : 0 < n) (hn2 : n ≤ 1000000) (hb : b < w.heap.size) (h : BytesAt w b o n f) :
    Calls Try.prog 54 #[.slice (some ⟨b, o, none⟩) n cap] w fun e w' => ∃ g c, e = .returned (.slice (some ⟨g, 0, none⟩) n c) ∧ w'.ownsRow w.heap.size 5 1 (.slice (some ⟨g, 0, none⟩) n c) n (bvals ((List.range n).map f)) ∧ w.heap.size ≤ g ∧ g < w'.heap.size ∧ Below w.heap.size w w' := by
  obtain ⟨i0, hi0, hz0, hz1, hz2⟩ := info_parts info_u8
  have hown0 : (w.alloc (.cells #[] 5)).ownsRow w.heap.size 5 1 (.slice (some ⟨w.heap.size, 0, none⟩) 0 0) 0 [] := World.ownsRow_lit (base := w.heap.size) (e := 5) (size := 1) w #[] 0 (Nat.le_refl _) (by unfold maxLen; omega) (by rfl)
  have hB0 : Below w.heap.size w (w.alloc (.cells #[] 5)) := (Below.refl _ _).alloc (Nat.le_refl _) _
  have hcells : ∀ j u, (bvals ((List.range n).map f))[j]? = some u → (w.alloc (.cells #[] 5)).cell? ((⟨b, o, none⟩ : Addr).add j) = some u := fun j u hu => by
    have hj : j < n := by have := (List.getElem?_eq_some_iff.1 hu).1; simpa [bvals] using this
    simp [bvals, hj] at hu
    subst hu
    rw [Addr.add_lit]
    exact (hB0.cell (p := ⟨b, o + j, none⟩) hb).trans (h j hj).1
  have hlen : (bvals ((List.range n).map f)).length = n * 1 := by simp [bvals]
  have hmx : 0 + n ≤ maxLen := by unfold maxLen; omega
  replace h := Lib.hid h
  go_enter Try.func54, Try.ntmps54
  go_wp2_with (at_builtin; refine wpList_append_lies _ rfl _ _ 34 (by rfl) w.heap.size 5 i0 _ 1 1 Try.underlying34 hi0 hz0 hz1 hz2 (by rfl) (by omega) _ _ _ (by rfl) hown0 ⟨b, o, none⟩ n cap _ (by rfl) hlen hcells (bvals_one _) hn hmx (by omega) hB0.size (w.heap.size + 1) (by simp) ?_; intro g1 cap1 w3 hown1 hgrow1 hat1 hlt1)
  rw [Nat.zero_add] at hown1
  have hg : w.heap.size ≤ g1 := (hown1.lt g1 rfl).1
  have hB3 : Below w.heap.size w w3 := hB0.grown hgrow1 hB0.size (fun q hq => by have := (hown0.lt q hq).1; omega)
  go_ret
  exact ⟨g1, cap1, rfl, by simpa using hown1, hg, hlt1, hB3⟩
end Go.Proofs.Ytkefkophlhcbiaa
