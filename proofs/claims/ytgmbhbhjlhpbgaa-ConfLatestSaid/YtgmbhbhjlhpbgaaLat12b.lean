/- The contract of the reference's Latest. -/
import Derived.Test.YtgmbhbhjlhpbgaaLat12
import Derived.Test.YtgmbhbhjlhpbgaaRwRefC
namespace Go.Proofs.Ytgmbhbhjlhpbgaa
open Go.ChangeShapes Go.WideShapes Go.ChangeAt Go.RowKit
set_option linter.unusedVariables false
set_option linter.unusedSimpArgs false
open Rw Lt

namespace Lt
/-- Behind k there is no change: what the first k tell is what all tell. -/
theorem lat_same (e : Nat → Rw.Ent) (base s : Int) (k n : Nat) (hk : k ≤ n) (h : ∀ i, k ≤ i → i < n → ¬ (e i).kind = 1) : lat e base s n = lat e base s k := by
  induction n with
  | zero => obtain rfl : k = 0 := by omega
            rfl
  | succ n ih =>
    by_cases hkn : k = n + 1
    · subst hkn; rfl
    · rw [lat_out (h n (by omega) (by omega))]
      exact ih (by omega) (fun i h1 h2 => h i h1 (by omega))
end Lt

set_option maxRecDepth 100000 in
set_option maxHeartbeats 1600000 in
theorem rlatest_c (r : Rw.R) (s : Int) (w : World) (hw : RWf r) (hr : RAt w r) :
    Calls Try.prog 46 #[r.val, .int .u8 s] w fun e' w' => e' = .returned (.tuple #[.int .u8 (latV r s).1, .int .i64 (latV r s).2, .int .i64 (chkE r)]) ∧ Below w.heap.size w w' := by
  obtain ⟨base, term, a, n, cap, e⟩ := r
  obtain ⟨x0, x1, x2⟩ := box_cells w (.int .i64 base) (.int .i64 term) (.slice a n cap) 54
  have hb0 := (Below.refl w.heap.size w).alloc (Nat.le_refl _) (.cells #[.int .i64 base, .int .i64 term, .slice a n cap] 54)
  cases hc : Rw.chkB ⟨base, term, a, n, cap, e⟩ with
  | false =>
    have hz := chkE_no hc
    have hl := Lib.hid (latV_no (s := s) hc)
    clear hc
    unfold R.val
    simp only
    go_enter Try.func46, Try.ntmps46
    go_wp2_with fail
    refine (rcheck_c ⟨base, term, a, n, cap, e⟩ _ hw (hr.below hb0)).mono ?_
    rw [hz]
    rintro e' w1 ⟨rfl, hb1⟩
    go_wp2
    go_ret3
    exact ⟨ret3 (by rw [hl.out]) (by rw [hl.out]) hz.symm, belowNext hb0 hb1 (Nat.le_refl _)⟩
  | true =>
    have hz := chkE_ok hc
    have hl := Lib.hid (latV_ok (s := s) hc)
    have hhd : Rw.headP ⟨base, term, a, n, cap, e⟩ := by unfold Rw.chkB at hc; exact (of_decide_eq_true hc).1
    obtain ⟨g1, g2, g3, g4, _⟩ := hhd
    simp only at g1 g2 g3 g4
    have g2' : (n : Int) ≤ 4096 := by omega
    clear hc
    have HR := Lib.hid hr
    have HW := Lib.hid hw
    clear hr hw
    unfold R.val
    simp only
    go_enter Try.func46, Try.ntmps46
    go_wp2_with fail
    refine (rcheck_c ⟨base, term, a, n, cap, e⟩ _ HW.out (HR.out.below hb0)).mono ?_
    rw [hz]
    rintro e' w1 ⟨rfl, hb1⟩
    have y0 := (hb1.cell (p := ⟨w.heap.size, 0, none⟩) (by simp)).trans x0
    have y2 := (hb1.cell (p := ⟨w.heap.size, 2, none⟩) (by simp)).trans x2
    have hb2 := belowNext hb0 hb1 (Nat.le_refl _)
    have hrw := HR.out.below hb2
    clear x0 x1 x2 hb1
    go_wp2_with fail
    go_loopw [7] (fun i wr => ∃ (k : Nat), k ≤ n ∧ i = .int .i64 ((k : Int) - 1) ∧ (∀ j, k ≤ j → j < n → ¬ (e j).kind = 1) ∧ wr = w1) (fun i _ => (intOf i + 1).toNat)
    case atStart => exact ⟨n, Nat.le_refl _, rfl, fun j h1 h2 => by omega, rfl⟩
    case round =>
      obtain ⟨k, hk, rfl, hno, rfl⟩ := hrel
      by_cases hlt : 0 < k
      · obtain ⟨k, rfl⟩ : ∃ k', k = k' + 1 := ⟨k - 1, by omega⟩
        have hk1 : k < n := by omega
        have hk2 : (k : Int) < (n : Int) := by omega
        have e1 : (((k + 1 : Nat) : Int) - 1) = (k : Int) := by omega
        rw [e1]
        obtain ⟨b, off, ha, hb, he⟩ := hrw (by simp only; omega)
        simp only at ha
        subst ha
        have hx := (he k hk1)
        simp only at hx
        obtain ⟨c0, c1, c2, c3, c4⟩ := hx
        clear he hrw
        cases q : ((e k).kind == 1) with
        | true =>
          have hq : (e k).kind = 1 := by simpa using q
          have hlk := Lib.hid ((lat_same e base s (k + 1) n (by omega) hno).trans (lat_in (base := base) (s := s) hq))
          clear hq hno
          go_wp2_with fail
          go_quiet (fail)
          go_wp2
          go_ret3
          exact ⟨ret3 (by rw [hl.out]; exact (congrArg Prod.fst hlk.out).symm) (by rw [hl.out]; exact (congrArg Prod.snd hlk.out).symm) hz.symm, below_drewN hb2 nq⟩
        | false =>
          have hq : ¬ (e k).kind = 1 := by simpa using q
          have hno' := Lib.hid (show ∀ j, k ≤ j → j < n → ¬ (e j).kind = 1 from fun j h1 h2 => by
            by_cases hj : j = k
            · subst hj; exact hq
            · exact hno j (by omega) h2)
          clear hq hno
          go_wp2_with fail
          go_roundw
          case rel => exact ⟨k, by omega, rfl, hno'.out, by trivial⟩
          case measure => simp [intOf]
      · obtain rfl : k = 0 := by omega
        have hlk := Lib.hid (lat_same e base s 0 n (by omega) hno)
        clear hno
        go_wp2_with fail
        go_quiet (fail)
        go_wp2
        go_ret3
        exact ⟨ret3 (by rw [hl.out]; exact (congrArg Prod.fst hlk.out).symm) (by rw [hl.out]; exact (congrArg Prod.snd hlk.out).symm) hz.symm, below_drewN hb2 nq⟩
end Go.Proofs.Ytgmbhbhjlhpbgaa
