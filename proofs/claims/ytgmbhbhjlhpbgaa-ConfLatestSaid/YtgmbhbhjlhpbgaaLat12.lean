/- The contracts of conf.Latest and of its reference's. -/
import Derived.Test.YtgmbhbhjlhpbgaaRw2
namespace Go.Proofs.Ytgmbhbhjlhpbgaa
open Go.ChangeShapes Go.WideShapes Go.ChangeAt Go.RowKit
set_option linter.unusedVariables false
set_option linter.unusedSimpArgs false
open Rw

namespace Lt
/-- The set and the place of the last change among the first k entries. -/
def lat (e : Nat → Rw.Ent) (base s : Int) : Nat → Int × Int
  | 0 => (s, base)
  | k + 1 => if (e k).kind = 1 then ((e k).set, base + k + 1) else lat e base s k
theorem lat_in {e : Nat → Rw.Ent} {base s : Int} {k : Nat} (h : (e k).kind = 1) : lat e base s (k + 1) = ((e k).set, base + k + 1) := by simp [lat, h]
theorem lat_out {e : Nat → Rw.Ent} {base s : Int} {k : Nat} (h : ¬ (e k).kind = 1) : lat e base s (k + 1) = lat e base s k := by simp [lat, h]
theorem lat_bounds (e : Nat → Rw.Ent) (base s : Int) (k : Nat) : base ≤ (lat e base s k).2 ∧ (lat e base s k).2 ≤ base + k := by
  induction k with
  | zero => simp [lat]
  | succ k ih =>
    by_cases h : (e k).kind = 1
    · rw [lat_in h]; simp only; omega
    · rw [lat_out h]; omega
end Lt
open Lt

set_option maxRecDepth 100000 in
set_option maxHeartbeats 1600000 in
theorem long_c (w : World) (r : Rw.R) (hw : RWf r) (hr : RAt w r) :
    Calls Try.prog 59 #[.slice r.a r.n r.cap] w fun e w' => (∃ b, e = .returned (.bool b)) ∧ w = w' := by
  obtain ⟨base, term, a, n, cap, e⟩ := r
  have hn : n ≤ 9223372036854775807 := hw.2.2.2.2.1
  go_enter Try.func59, Try.ntmps59
  go_wp2
  go_loopw [3, 7] (fun x i wr => ∃ (k : Nat) (y : Int), k ≤ n ∧ k ≤ 150 ∧ x = .int .i64 y ∧ y ≤ 20000 ∧ -9223372036854775808 ≤ y ∧ i = .int .i64 (k : Nat) ∧ w = wr) (fun x i _ => n - (intOf i).toNat)
  case atStart => exact ⟨0, 0, Nat.zero_le _, by omega, rfl, by omega, by omega, rfl, rfl⟩
  case round =>
    obtain ⟨k, y, hk, hk2, rfl, hy, hy2, rfl, rfl⟩ := hrel
    by_cases hlt : k < n
    · have hlt' : (k : Int) < (n : Int) := by omega
      obtain ⟨b, off, ha, hb, he⟩ := hr (by simp only; omega)
      simp only at ha
      subst ha
      have hx := (he k hlt).2.2.2.2
      simp only at hx
      have hd : (e k).dl ≤ 9223372036854775807 := (hw.2.2.2.2.2 k hlt).2.2.2.2
      have hd' : ((e k).dl : Int) ≤ 9223372036854775807 := by omega
      clear he hr hw
      have hlo : -9223372036854775808 ≤ wrap64 (y + ((e k).dl : Int)) := by rw [wrap64.eq_1]; omega
      go_wp2
      all_goals first
        | (go_ret; first | exact ⟨⟨_, rfl⟩, rfl⟩ | exact ⟨.inr rfl, rfl⟩)
        | (go_roundw
           case rel => exact ⟨k + 1, _, by omega, by omega, rfl, by omega, hlo, by simp, by trivial⟩
           case measure => simp [intOf]; omega)
    · obtain rfl : k = n := by omega
      go_wp2
      go_ret
      exact ⟨⟨_, rfl⟩, rfl⟩

namespace Lt
def latV (r : Rw.R) (s : Int) : Int × Int := if Rw.chkB r then lat r.e r.base s r.n else (0, 0)
theorem latV_ok {r : Rw.R} {s : Int} (h : Rw.chkB r = true) : latV r s = lat r.e r.base s r.n := by unfold latV; rw [if_pos h]
theorem latV_no {r : Rw.R} {s : Int} (h : Rw.chkB r = false) : latV r s = (0, 0) := by unfold latV; rw [if_neg (by simp [h])]
end Lt
theorem ret3 {a b c a' b' c' : Int} (h1 : a = a') (h2 : b = b') (h3 : c = c') : Ending.returned (.tuple #[.int .u8 a, .int .i64 b, .int .i64 c]) = .returned (.tuple #[.int .u8 a', .int .i64 b', .int .i64 c']) := by rw [h1, h2, h3]

set_option maxRecDepth 100000 in
set_option maxHeartbeats 1600000 in
theorem latest_c (r : Rw.R) (s : Int) (w : World) (hw : RWf r) (hr : RAt w r) :
    Calls Try.prog 45 #[r.val, .int .u8 s] w fun e' w' => e' = .returned (.tuple #[.int .u8 (latV r s).1, .int .i64 (latV r s).2, .int .i64 (chkE r)]) ∧ Below w.heap.size w w' := by
  obtain ⟨base, term, a, n, cap, e⟩ := r
  obtain ⟨x0, x1, x2⟩ := box_cells w (.int .i64 base) (.int .i64 term) (.slice a n cap) 54
  have hb0 := (Below.refl w.heap.size w).alloc (Nat.le_refl _) (.cells #[.int .i64 base, .int .i64 term, .slice a n cap] 54)
  cases hc : Rw.chkB ⟨base, term, a, n, cap, e⟩ with
  | false =>
    have hz := chkE_no hc
    have hl := Lib.hid (latV_no (s := s) hc)
    clear hc
    unfold R.val
    simp only
    go_enter Try.func45, Try.ntmps45
    go_wp2_with fail
    refine (check_c ⟨base, term, a, n, cap, e⟩ _ hw (hr.below hb0)).mono ?_
    rw [hz]
    rintro e' w1 ⟨rfl, hb1⟩
    go_wp2
    go_ret3
    exact ⟨ret3 (by rw [hl.out]) (by rw [hl.out]) hz.symm, belowNext hb0 hb1 (Nat.le_refl _)⟩
  | true =>
    have hz := chkE_ok hc
    have hl := Lib.hid (latV_ok (s := s) hc)
    have hhd : Rw.headP ⟨base, term, a, n, cap, e⟩ := by unfold Rw.chkB at hc; exact (of_decide_eq_true hc).1
    obtain ⟨g1, g2, g3, g4, _⟩ := hhd
    simp only at g1 g2 g3 g4
    have g2' : (n : Int) ≤ 4096 := by omega
    clear hc
    have HR := Lib.hid hr
    have HW := Lib.hid hw
    clear hr hw
    unfold R.val
    simp only
    go_enter Try.func45, Try.ntmps45
    go_wp2_with fail
    refine (check_c ⟨base, term, a, n, cap, e⟩ _ HW.out (HR.out.below hb0)).mono ?_
    rw [hz]
    rintro e' w1 ⟨rfl, hb1⟩
    have y0 := (hb1.cell (p := ⟨w.heap.size, 0, none⟩) (by simp)).trans x0
    have y2 := (hb1.cell (p := ⟨w.heap.size, 2, none⟩) (by simp)).trans x2
    have hb2 := belowNext hb0 hb1 (Nat.le_refl _)
    have hrw := HR.out.below hb2
    clear x0 x1 x2 hb1
    go_wp2_with fail
    go_quiet (fail)
    go_wp2_with fail
    go_loopw [4, 5, 18] (fun x y i wr => ∃ (k : Nat), k ≤ n ∧ x = .int .u8 (lat e base s k).1 ∧ y = .int .i64 (lat e base s k).2 ∧ i = .int .i64 (k : Nat) ∧ ∃ m, wr = w1.drewN m) (fun x y i _ => n - (intOf i).toNat)
    case atStart => exact ⟨0, Nat.zero_le _, rfl, rfl, rfl, _, rfl⟩
    case round =>
      obtain ⟨k, hk, rfl, rfl, rfl, m, rfl⟩ := hrel
      by_cases hlt : k < n
      · have hlt' : (k : Int) < (n : Int) := by omega
        obtain ⟨b, off, ha, hb, he⟩ := hrw (by simp only; omega)
        simp only at ha
        subst ha
        have hx := (he k hlt)
        simp only at hx
        obtain ⟨c0, c1, c2, c3, c4⟩ := hx
        clear he hrw
        cases q : ((e k).kind == 1) with
        | true =>
          have hq : (e k).kind = 1 := by simpa using q
          have hlk := Lib.hid (lat_in (base := base) (s := s) hq)
          clear hq
          go_wp2_with fail
          go_quiet (fail)
          go_wp2_with fail
          go_roundw
          case rel => exact ⟨k + 1, by omega, by rw [hlk.out], by rw [hlk.out], by simp, _, rfl⟩
          case measure => simp [intOf]; omega
        | false =>
          have hq : ¬ (e k).kind = 1 := by simpa using q
          have hlk := Lib.hid (lat_out (base := base) (s := s) hq)
          clear hq
          go_wp2_with fail
          go_roundw
          case rel => exact ⟨k + 1, by omega, by rw [hlk.out], by rw [hlk.out], by simp, m, rfl⟩
          case measure => simp [intOf]; omega
      · obtain rfl : k = n := by omega
        go_wp2
        go_ret3
        exact ⟨ret3 (by rw [hl.out]) (by rw [hl.out]) hz.symm, below_drewN hb2 m⟩
end Go.Proofs.Ytgmbhbhjlhpbgaa
