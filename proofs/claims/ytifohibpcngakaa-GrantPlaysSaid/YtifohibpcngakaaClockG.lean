/- The contracts of package clock and of its reference weirref03: each as one walk. -/
import Derived.Test.YtifohibpcngakaaRows
import Derived.Test.YtifohibpcngakaaShelf
import Derived.Test.YtifohibpcngakaaOpen
import Derived.WalkKit
import Derived.ProofKit
import Derived.OpenShut
import Derived.WalkSpells
import Derived.WalkLawsBesides
import Derived.WalkSmall
import Derived.BigQuiet
import Derived.Deep.QuietTactic
import Derived.RegionTactic
import Derived.ChangeAlike
import Derived.BigRegion
import Derived.Outline
import Derived.Lib.Hide
namespace Go.Proofs.Ytifohibpcngakaa
open Go.ChangeShapes Go.WideShapes Go.ChangeAt Go.RowKit
set_option linter.unusedVariables false
set_option linter.unusedSimpArgs false

theorem ret_int {k : IntKind} {a b : Int} (h : a = b) : Ending.returned (.int k a) = .returned (.int k b) := by rw [h]
theorem ret_bool {a b : Bool} (h : a = b) : Ending.returned (.bool a) = .returned (.bool b) := by rw [h]
theorem max_fold (a b : Int) : (if a < b then b else a) = max a b := by omega
theorem min_fold (a b : Int) : (if a < b then a else b) = min a b := by omega
attribute [local go_sem] max_fold min_fold
theorem belowNext {a b c : World} {B : Nat} (h : Below B a b) (k : Below b.heap.size b c) (hB : B ≤ a.heap.size) : Below B a c := h.trans (k.mono (Nat.le_trans hB h.size))
theorem drewN_below (w : World) (n : Nat) : Below w.heap.size w (w.drewN n) := below_drewN (Below.refl _ _) n

/-- Nothing but block b, and new blocks, is other than it was. -/
structure Only (b : Nat) (w w' : World) : Prop where
  os : w'.os = w.os
  tape : w'.tape = w.tape
  output : w'.output = w.output
  size : w.heap.size ≤ w'.heap.size
  block : ∀ k, k < w.heap.size → k ≠ b → w'.heap[k]? = w.heap[k]?
theorem Only.refl (b : Nat) (w : World) : Only b w w := ⟨rfl, rfl, rfl, Nat.le_refl _, fun _ _ _ => rfl⟩
theorem Only.trans {b : Nat} {u v w : World} (h : Only b u v) (k : Only b v w) : Only b u w :=
  ⟨k.os.trans h.os, k.tape.trans h.tape, k.output.trans h.output, Nat.le_trans h.size k.size, fun i hi hb => (k.block i (Nat.lt_of_lt_of_le hi h.size) hb).trans (h.block i hi hb)⟩
theorem Only.of_below {b : Nat} {w w' : World} (h : Below w.heap.size w w') : Only b w w' := ⟨h.os, h.tape, h.output, h.size, fun k hk _ => h.block k hk⟩
theorem Only.setCell {b : Nat} {u w : World} (h : Only b u w) (off : Nat) (v : Value) : Only b u (w.setCell ⟨b, off, none⟩ v) :=
  h.trans ⟨rfl, rfl, rfl, by simp [World.setCell], fun k _ hb => Below.heap_setCell _ _ _ _ hb⟩
theorem Only.drew {b : Nat} {u w : World} (h : Only b u w) : Only b u w.drew := ⟨h.os, h.tape, h.output, h.size, h.block⟩
theorem Only.below {b B : Nat} {w w' : World} (h : Only b w w') (hB : B ≤ b) (hs : B ≤ w.heap.size) : Below B w w' := ⟨h.os, h.tape, h.output, h.size, fun k hk => h.block k (by omega) (by omega)⟩
theorem Only.cell {b : Nat} {w w' : World} (h : Only b w w') {a : Addr} {v : Value} (hc : w.cell? a = some v) (hne : a.block ≠ b) : w'.cell? a = some v :=
  (World.cell?_of_block (w := w) (h.block a.block (cell_lt hc) hne)).trans hc
theorem Only.frozen {b : Nat} {w w' : World} (h : Only b w w') {a : Addr} (hlt : a.block < w.heap.size) (hne : a.block ≠ b) : w'.frozen? a = w.frozen? a :=
  World.frozen?_of_block (w := w) (h.block a.block hlt hne)

namespace Ck
/-- A clock that lies at block b. -/
structure At (w : World) (b : Nat) (t m r : Int) : Prop where
  c0 : w.cell? ⟨b, 0, none⟩ = some (.int .i64 t)
  c1 : w.cell? ⟨b, 1, none⟩ = some (.int .i64 m)
  c2 : w.cell? ⟨b, 2, none⟩ = some (.int .i64 r)
  f0 : w.frozen? ⟨b, 0, none⟩ = false
  f1 : w.frozen? ⟨b, 1, none⟩ = false
theorem At.lt {w : World} {b : Nat} {t m r : Int} (h : At w b t m r) : b < w.heap.size := cell_lt h.c0
theorem At.only {w w' : World} {b b' : Nat} {t m r : Int} (h : At w b t m r) (k : Only b' w w') (hne : b ≠ b') : At w' b t m r :=
  ⟨k.cell h.c0 hne, k.cell h.c1 hne, k.cell h.c2 hne, (k.frozen h.lt hne).trans h.f0, (k.frozen h.lt hne).trans h.f1⟩
theorem At.below {w w' : World} {b : Nat} {t m r : Int} (h : At w b t m r) (k : Below w.heap.size w w') : At w' b t m r :=
  ⟨(k.cell h.lt).trans h.c0, (k.cell h.lt).trans h.c1, (k.cell h.lt).trans h.c2, (k.frozen h.lt).trans h.f0, (k.frozen h.lt).trans h.f1⟩
/-- What holds of a clock's numbers. -/
structure Inv (t m r : Int) : Prop where
  r0 : 0 ≤ r
  r1 : r ≤ 200
  t0 : 0 ≤ t
  t1 : t ≤ 1099511627776
  m0 : t * (1000 - r) ≤ m
  m1 : m ≤ t * (1000 + r)
def adv (r ticks wish : Int) : Int := min (max wish (ticks * (1000 - r))) (ticks * (1000 + r))
theorem mul_b {t r : Int} (t0 : 0 ≤ t) (t1 : t ≤ 1099511627776) (r0 : 0 ≤ r) (r1 : r ≤ 200) : 0 ≤ t * (1000 - r) ∧ t * (1000 - r) ≤ t * (1000 + r) ∧ t * (1000 + r) ≤ 1319413953331200 := by
  refine ⟨Int.mul_nonneg t0 (by omega), Int.mul_le_mul_of_nonneg_left (by omega) t0, ?_⟩
  have := Int.mul_le_mul t1 (show 1000 + r ≤ 1200 by omega) (by omega) (by omega)
  omega
theorem adv_b {r ticks wish : Int} (h : ticks * (1000 - r) ≤ ticks * (1000 + r)) : ticks * (1000 - r) ≤ adv r ticks wish ∧ adv r ticks wish ≤ ticks * (1000 + r) := by unfold adv; omega
theorem Inv.step {t m r ticks : Int} (h : Inv t m r) (h0 : 0 ≤ ticks) (h1 : ticks ≤ 1099511627776 - t) (wish : Int) : Inv (t + ticks) (m + adv r ticks wish) r := by
  obtain ⟨r0, r1, t0, t1, m0, m1⟩ := h
  have b := mul_b h0 (by omega) r0 r1
  have a := adv_b (wish := wish) b.2.1
  refine ⟨r0, r1, by omega, by omega, ?_, ?_⟩
  · rw [Int.add_mul]; omega
  · rw [Int.add_mul]; omega
theorem Inv.mb {t m r : Int} (h : Inv t m r) : 0 ≤ m ∧ m ≤ 1319413953331200 := by
  have := mul_b h.t0 h.t1 h.r0 h.r1; have := h.m0; have := h.m1; omega
def sure (m r : Int) : Int := min (max m 0) 1125899906842624 / (1000 + min (max r 0) 200)
def over (t r : Int) : Int := (min (max t 0) 1099511627776 * (1000 * (1000 + min (max r 0) 200)) + (1000 - min (max r 0) 200 - 1)) / (1000 - min (max r 0) 200)
end Ck
open Ck

theorem new_ok (r : Int) (w : World) (h0 : 0 ≤ r) (h1 : r ≤ 200) :
    Calls Try.prog 18 #[.int .i64 r] w fun e w' => e = .returned (.tuple #[.pointer (some ⟨w.heap.size, 0, none⟩), .int .i64 0]) ∧ Ck.At w' w.heap.size 0 0 r ∧ Below w.heap.size w w' := by
  go_enter Try.func18, Try.ntmps18
  go_wp2
  go_ret2
  exact ⟨rfl, ⟨by go_simp, by go_simp, by go_simp, by go_simp, by go_simp⟩, (Below.refl _ _).alloc (Nat.le_refl _) _⟩

theorem new_no (r : Int) (w : World) (h : r < 0 ∨ 200 < r) :
    Calls Try.prog 18 #[.int .i64 r] w fun e w' => e = .returned (.tuple #[.pointer none, .int .i64 2]) ∧ w = w' := by
  by_cases h0 : r < 0
  · clear h
    go_enter Try.func18, Try.ntmps18
    go_wp2
    go_ret2
    exact ⟨rfl, rfl⟩
  · have h1 : 200 < r := by omega
    clear h
    go_enter Try.func18, Try.ntmps18
    go_wp2
    go_ret2
    exact ⟨rfl, rfl⟩

set_option maxRecDepth 100000 in
set_option maxHeartbeats 1000000 in
theorem step_ok (b : Nat) (t m r ticks wish : Int) (w : World) (h : Ck.At w b t m r) (I : Ck.Inv t m r) (h0 : 0 ≤ ticks) (h1 : ticks ≤ 1099511627776 - t) :
    Calls Try.prog 20 #[.pointer (some ⟨b, 0, none⟩), .int .i64 ticks, .int .i64 wish] w fun e w' => e = .returned (.int .i64 0) ∧ Ck.At w' b (t + ticks) (m + Ck.adv r ticks wish) r ∧ Only b w w' := by
  have hb := h.lt
  obtain ⟨c0, c1, c2, f0, f1⟩ := h
  have q1 := I.r0
  have q2 := I.r1
  have q3 := I.t0
  have q4 := I.t1
  obtain ⟨q5, q6⟩ := I.mb
  obtain ⟨q7, q8, q9⟩ := mul_b h0 (show ticks ≤ 1099511627776 by omega) q1 q2
  have q10 : ticks * (1000 - r) ≤ min (max wish (ticks * (1000 - r))) (ticks * (1000 + r)) := (adv_b (wish := wish) q8).1
  have q11 : min (max wish (ticks * (1000 - r))) (ticks * (1000 + r)) ≤ ticks * (1000 + r) := (adv_b (wish := wish) q8).2
  clear I
  go_enter Try.func20, Try.ntmps20
  go_wp2
  go_region
  go_wp2
  go_ret
  refine ⟨rfl, ⟨?_, ?_, ?_, ?_, ?_⟩, ?_⟩
  · exact World.cell?_setCell_same _ ⟨b, 0, none⟩ _ ((World.cell?_setCell_other w ⟨b, 1, none⟩ ⟨b, 0, none⟩ _ (by simp)).trans c0)
  · exact (World.cell?_setCell_other _ ⟨b, 0, none⟩ ⟨b, 1, none⟩ _ (by simp)).trans (World.cell?_setCell_same w ⟨b, 1, none⟩ _ c1)
  · exact (World.cell?_setCell_other _ ⟨b, 0, none⟩ ⟨b, 2, none⟩ _ (by simp)).trans ((World.cell?_setCell_other w ⟨b, 1, none⟩ ⟨b, 2, none⟩ _ (by simp)).trans c2)
  · exact (World.frozen?_setCell _ ⟨b, 0, none⟩ ⟨b, 0, none⟩ _).trans ((World.frozen?_setCell w ⟨b, 1, none⟩ ⟨b, 0, none⟩ _).trans f0)
  · exact (World.frozen?_setCell _ ⟨b, 0, none⟩ ⟨b, 1, none⟩ _).trans ((World.frozen?_setCell w ⟨b, 1, none⟩ ⟨b, 1, none⟩ _).trans f1)
  · exact (((Only.refl b w).setCell 1 _).setCell 0 _).drew

theorem step_no (b : Nat) (t m r ticks wish : Int) (w : World) (h : Ck.At w b t m r) (h0 : 0 ≤ t) (h1 : t ≤ 1099511627776) (hb : ticks < 0 ∨ 1099511627776 - t < ticks) :
    Calls Try.prog 20 #[.pointer (some ⟨b, 0, none⟩), .int .i64 ticks, .int .i64 wish] w fun e w' => e = .returned (.int .i64 2) ∧ w = w' := by
  obtain ⟨c0, c1, c2, f0, f1⟩ := h
  by_cases hn : ticks < 0
  · clear hb
    go_enter Try.func20, Try.ntmps20
    go_wp2
    go_ret
    exact ⟨rfl, rfl⟩
  · have hb' : 1099511627776 - t < ticks := by omega
    clear hb
    go_enter Try.func20, Try.ntmps20
    go_wp2
    go_ret
    exact ⟨rfl, rfl⟩

theorem now_c (b : Nat) (t m r : Int) (w : World) (h : Ck.At w b t m r) :
    Calls Try.prog 19 #[.pointer (some ⟨b, 0, none⟩)] w fun e w' => e = .returned (.int .i64 m) ∧ w = w' := by
  obtain ⟨c0, c1, c2, f0, f1⟩ := h
  go_enter Try.func19, Try.ntmps19
  go_wp2
  go_ret
  exact ⟨rfl, rfl⟩

/-! ### how long a stretch surely was; when another clock has gone on so far -/
theorem u64_wrap {x : Int} (h0 : 0 ≤ x) (h1 : x < 18446744073709551616) : IntKind.u64.wrap x = x := by
  simp [IntKind.wrap, IntKind.bits, IntKind.signed]; omega

theorem div64_small (n y : Nat) (w : World) (hn : n ≤ 2000000000000000000) (hy : 0 < y) (hy' : y ≤ 1200) :
    Calls Try.prog 33 #[.int .u64 0, .int .u64 n, .int .u64 y] w fun e w' => e = .returned (.tuple #[.int .u64 ((n : Int) / y), .int .u64 ((n : Int) % y)]) ∧ Below w.heap.size w w' := by
  have h1 : (0 : Int) < (y : Int) := by omega
  have h2 : ((y : Int) == 0) = false := by simp; omega
  have h3 : (n : Int) ≤ 2000000000000000000 := by omega
  have h4 : (y : Int) ≤ 1200 := by omega
  go_enter Try.func33, Try.ntmps33
  go_wp2
  go_quiet (fail)
  go_wp2
  go_ret2
  have h5 : (0 : Int) ≤ (n : Int) / y := Int.ediv_nonneg (by omega) (by omega)
  have h6 : (n : Int) / y ≤ n := Int.ediv_le_self _ (by omega)
  have e := u64_wrap h5 (by omega)
  refine ⟨?_, drewN_below _ _⟩
  show Ending.returned (.tuple #[.int .u64 (IntKind.u64.wrap ((n : Int) / y)), _]) = _
  rw [e]
  rfl

theorem mul64_small (n k : Nat) (h : n * k ≤ 2000000000000000000) (hn : n ≤ 2000000000000000000) (hk : k ≤ 2000000000000000000) (w : World) :
    Calls Try.prog 32 #[.int .u64 n, .int .u64 k] w fun e w' => e = .returned (.tuple #[.int .u64 0, .int .u64 ((n * k : Nat) : Int)]) ∧ w = w' := by
  refine (Try.bits_Mul64 n k (by omega) (by omega) w).mono ?_
  rintro e w' ⟨rfl, rfl⟩
  have h1 : n * k / 18446744073709551616 = 0 := Nat.div_eq_of_lt (by omega)
  have h2 : n * k % 18446744073709551616 = n * k := Nat.mod_eq_of_lt (by omega)
  rw [h1, h2]
  exact ⟨rfl, rfl⟩