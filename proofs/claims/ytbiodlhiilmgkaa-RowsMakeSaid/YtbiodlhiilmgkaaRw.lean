/- The contracts of package rows (May, Check, Last, Newer) and of its reference weirref09: each as one walk over rows that lie in memory. -/
import Derived.Test.YtbiodlhiilmgkaaRows
import Derived.Test.YtbiodlhiilmgkaaOpen
import Derived.WalkKit
import Derived.ProofKit
import Derived.OpenShut
import Derived.WalkSpells
import Derived.WalkLawsBesides
import Derived.WalkSmall
import Derived.BigQuiet
import Derived.Deep.QuietTactic
import Derived.Outline
import Derived.Lib.Hide
namespace Go.Proofs.Ytbiodlhiilmgkaa
open Go.ChangeShapes Go.WideShapes Go.ChangeAt Go.RowKit
set_option linter.unusedVariables false
set_option linter.unusedSimpArgs false

namespace Rw
/-- An entry, as it lies: its data are told by where they lie and how many they are. -/
structure Ent where
  term : Int
  kind : Int
  stamp : Int
  set : Int
  da : Option Addr
  dl : Nat
  dc : Nat
/-- Rows, as they lie. -/
structure R where
  base : Int
  term : Int
  a : Option Addr
  n : Nat
  cap : Nat
  e : Nat → Ent
def R.val (r : R) : Value := .agg #[.int .i64 r.base, .int .i64 r.term, .slice r.a r.n r.cap]
def EntAt (w : World) (b off : Nat) (x : Ent) : Prop :=
  w.cell? ⟨b, off, none⟩ = some (.int .i64 x.term) ∧ w.cell? ⟨b, off + 1, none⟩ = some (.int .i8 x.kind) ∧ w.cell? ⟨b, off + 2, none⟩ = some (.int .i64 x.stamp) ∧
    w.cell? ⟨b, off + 3, none⟩ = some (.int .u8 x.set) ∧ w.cell? ⟨b, off + 4, none⟩ = some (.slice x.da x.dl x.dc)
def RAt (w : World) (r : R) : Prop :=
  0 < r.n → ∃ b off, r.a = some ⟨b, off, none⟩ ∧ b < w.heap.size ∧ ∀ i, i < r.n → EntAt w b (off + i * 5) (r.e i)
/-- The numbers of rows fit their kinds. -/
def EWf (x : Ent) : Prop := -9223372036854775808 ≤ x.term ∧ x.term ≤ 9223372036854775807 ∧ -9223372036854775808 ≤ x.stamp ∧ x.stamp ≤ 9223372036854775807 ∧ x.dl ≤ 9223372036854775807
def RWf (r : R) : Prop := -9223372036854775808 ≤ r.base ∧ r.base ≤ 9223372036854775807 ∧ -9223372036854775808 ≤ r.term ∧ r.term ≤ 9223372036854775807 ∧ r.n ≤ 9223372036854775807 ∧ ∀ i, i < r.n → EWf (r.e i)

def mayB (x : Ent) (t : Int) : Bool :=
  decide (1 ≤ x.term ∧ t ≤ x.term ∧ 0 ≤ x.stamp ∧ 0 ≤ x.kind ∧ x.kind ≤ 2 ∧ ((x.kind = 1 ∧ x.set ≠ 0) ∨ (x.kind ≠ 1 ∧ x.set = 0)) ∧ (x.kind = 2 ∨ x.dl = 0) ∧ x.dl ≤ 16384)
/-- The term ahead of entry k. -/
def tb (r : R) (k : Nat) : Int := if k = 0 then r.term else (r.e (k - 1)).term
def headP (r : R) : Prop := 0 ≤ r.base ∧ r.n ≤ 4096 ∧ r.base ≤ 1099511627776 - r.n ∧ 0 ≤ r.term ∧ ((r.base = 0 ∧ r.term = 0) ∨ (r.base ≠ 0 ∧ r.term ≠ 0))
instance (r : R) : Decidable (headP r) := by unfold headP; infer_instance
def chkB (r : R) : Bool := decide (headP r ∧ ∀ i, i < r.n → mayB (r.e i) (tb r i) = true)
def err (b : Bool) (e : Int) : Int := if b then 0 else e
def lastI (r : R) : Int := r.base + r.n
def lastT (r : R) : Int := tb r r.n
def newerB (r : R) (i t : Int) : Bool := chkB r && decide (lastT r < t ∨ (t = lastT r ∧ lastI r ≤ i))

theorem EntAt.below {B : Nat} {w w' : World} {b off : Nat} {x : Ent} (h : EntAt w b off x) (k : Below B w w') (hb : b < B) : EntAt w' b off x :=
  ⟨(k.cell (p := ⟨b, _, none⟩) hb).trans h.1, (k.cell (p := ⟨b, _, none⟩) hb).trans h.2.1, (k.cell (p := ⟨b, _, none⟩) hb).trans h.2.2.1, (k.cell (p := ⟨b, _, none⟩) hb).trans h.2.2.2.1, (k.cell (p := ⟨b, _, none⟩) hb).trans h.2.2.2.2⟩
theorem RAt.below {w w' : World} {r : R} (h : RAt w r) (k : Below w.heap.size w w') : RAt w' r := by
  intro hp
  obtain ⟨b, off, ha, hb, he⟩ := h hp
  exact ⟨b, off, ha, Nat.lt_of_lt_of_le hb k.size, fun i hi => (he i hi).below k hb⟩
theorem RAt.nil (w : World) {r : R} (h : r.n = 0) : RAt w r := fun hp => absurd hp (by omega)
end Rw
open Rw

theorem belowNext {a b c : World} {B : Nat} (h : Below B a b) (k : Below b.heap.size b c) (hB : B ≤ a.heap.size) : Below B a c := h.trans (k.mono (Nat.le_trans hB h.size))

/-! ### one entry -/
theorem drewN_below (w : World) (n : Nat) : Below w.heap.size w (w.drewN n) := below_drewN (Below.refl _ _) n

set_option maxHeartbeats 2000000 in
theorem may_core (x : Ent) (t : Int) (b off : Nat) (w : World) (k1 k2 s0 : Bool) (hk1 : (x.kind == 1) = k1) (hk2 : (x.kind != 2) = k2) (hs0 : (x.set != 0) = s0)
    (c0 : w.cell? ⟨b, off, none⟩ = some (.int .i64 x.term)) (c1 : w.cell? ⟨b, off + 1, none⟩ = some (.int .i8 x.kind)) (c2 : w.cell? ⟨b, off + 2, none⟩ = some (.int .i64 x.stamp))
    (c3 : w.cell? ⟨b, off + 3, none⟩ = some (.int .u8 x.set)) (c4 : w.cell? ⟨b, off + 4, none⟩ = some (.slice x.da x.dl x.dc)) :
    Calls Try.prog 37 #[.pointer (some ⟨b, off, none⟩), .int .i64 t] w fun e w' => e = .returned (.bool (Rw.mayB x t)) ∧ Below w.heap.size w w' := by
  have hf : Hid (∀ v : Bool, Rw.mayB x t = v → Ending.returned (.bool v) = .returned (.bool (Rw.mayB x t))) := fun v h => by rw [h]
  have H1 := Lib.hid (show x.kind = 1 ↔ k1 = true by subst hk1; exact beq_iff_eq.symm)
  have H2 := Lib.hid (show x.kind = 2 ↔ k2 = false by subst hk2; exact bne_eq_false_iff_eq.symm)
  have H3 := Lib.hid (show x.set = 0 ↔ s0 = false by subst hs0; exact bne_eq_false_iff_eq.symm)
  cases k1 <;> cases k2 <;> cases s0
  all_goals
    go_enter Try.func37, Try.ntmps37
    go_wp2
    all_goals first
      | (go_ret; exact ⟨hf.out _ (by have q1 := H1.out; have q2 := H2.out; have q3 := H3.out; unfold Rw.mayB; simp at q1 q2 q3; first | (simp only [decide_eq_true_eq, decide_eq_false_iff_not]; omega) | (rw [decide_eq_decide]; constructor <;> (intro hh; omega))), Below.refl _ _⟩)
      | skip
    go_quiet (fail)
    go_wp2
    all_goals
      go_ret
      exact ⟨hf.out _ (by have q1 := H1.out; have q2 := H2.out; have q3 := H3.out; unfold Rw.mayB; simp at q1 q2 q3; first | (simp only [decide_eq_true_eq, decide_eq_false_iff_not]; omega) | (rw [decide_eq_decide]; constructor <;> (intro hh; omega))), drewN_below _ _⟩

theorem rwmay_c (x : Ent) (t : Int) (b off : Nat) (w : World) (hx : EntAt w b off x) :
    Calls Try.prog 37 #[.pointer (some ⟨b, off, none⟩), .int .i64 t] w fun e w' => e = .returned (.bool (Rw.mayB x t)) ∧ Below w.heap.size w w' :=
  may_core x t b off w _ _ _ rfl rfl rfl hx.1 hx.2.1 hx.2.2.1 hx.2.2.2.1 hx.2.2.2.2

/-! ### rows -/
theorem box_cells (w : World) (v0 v1 v2 : Value) (t : TypeId) : (w.alloc (.cells #[v0, v1, v2] t)).cell? ⟨w.heap.size, 0, none⟩ = some v0 ∧ (w.alloc (.cells #[v0, v1, v2] t)).cell? ⟨w.heap.size, 1, none⟩ = some v1 ∧ (w.alloc (.cells #[v0, v1, v2] t)).cell? ⟨w.heap.size, 2, none⟩ = some v2 := by
  refine ⟨?_, ?_, ?_⟩ <;> go_simp

set_option maxHeartbeats 2000000 in
theorem check_bad (r : Rw.R) (w : World) (hw : RWf r) (h : ¬ Rw.headP r) :
    Calls Try.prog 24 #[r.val] w fun e w' => e = .returned (.int .i64 90) ∧ Below w.heap.size w w' := by
  obtain ⟨h1, h2, h3, h4, h5, _⟩ := hw
  have HH := Lib.hid h
  clear h
  unfold R.val
  obtain ⟨z1, hz1⟩ : ∃ z, (r.base == 0) = z := ⟨_, rfl⟩
  obtain ⟨z2, hz2⟩ : ∃ z, (r.term == 0) = z := ⟨_, rfl⟩
  have Z1 := Lib.hid (show r.base = 0 ↔ z1 = true by subst hz1; exact beq_iff_eq.symm)
  have Z2 := Lib.hid (show r.term = 0 ↔ z2 = true by subst hz2; exact beq_iff_eq.symm)
  have h5' : (r.n : Int) ≤ 9223372036854775807 := by omega
  cases z1 <;> cases z2
  all_goals
    go_enter Try.func24, Try.ntmps24
    go_wp2
    all_goals first
      | (go_ret; exact ⟨rfl, (Below.refl _ _).alloc (Nat.le_refl _) _⟩)
      | exact (HH.out (by have q1 := Z1.out; have q2 := Z2.out; simp at q1 q2; unfold Rw.headP; omega)).elim

end Go.Proofs.Ytbiodlhiilmgkaa
