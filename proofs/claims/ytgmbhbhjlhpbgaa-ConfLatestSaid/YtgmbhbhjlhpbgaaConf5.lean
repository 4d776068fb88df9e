/- The contracts of conf.Meets and of its reference's. -/
import Derived.Test.YtgmbhbhjlhpbgaaConf4
import Derived.Test.YtgmbhbhjlhpbgaaMeets7
namespace Go.Proofs.Ytgmbhbhjlhpbgaa
open Go.ChangeShapes Go.WideShapes Go.ChangeAt Go.RowKit
set_option linter.unusedVariables false
set_option linter.unusedSimpArgs false
open B7 Cf Mt
theorem max_fold (a b : Int) : (if a < b then b else a) = max a b := by omega
theorem min_fold (a b : Int) : (if a < b then a else b) = min a b := by omega
attribute [local go_sem] max_fold min_fold

theorem need_c (s both b : Nat) (hs : s < 256) (hb7 : both ≤ 7) (w : World) (hc : w.cell? ⟨b, 0, none⟩ = some (.int .i64 (both : Int))) :
    Calls Try.prog 53 #[.int .u8 s, .pointer (some ⟨b, 0, none⟩)] w fun e w' => e = .returned (.int .i64 (need s both)) ∧ ∃ m, w' = w.drewN m := by
  have b1 := cnt_le s 7
  go_enter Try.func53, Try.ntmps53
  go_wp2
  go_quiet ((go_at_call 19; exact Calls.quiet_of_same (size_q s hs _)))
  go_wp2
  go_ret
  exact ⟨rfl, _, rfl⟩

theorem need_q (s both b : Nat) (hs : s < 256) (hb7 : both ≤ 7) (w : World) (n : Nat) (hc : w.cell? ⟨b, 0, none⟩ = some (.int .i64 (both : Int))) :
    Calls Try.prog 53 #[.int .u8 s, .pointer (some ⟨b, 0, none⟩)] (w.drewN n) fun e w' => e = .returned (.int .i64 (need s both)) ∧ ∃ m, w' = w.drewN m :=
  (need_c s both b hs hb7 (w.drewN n) (by simpa using hc)).mono fun e w' h => ⟨h.1, by obtain ⟨m, rfl⟩ := h.2; exact ⟨n + m, by simp [World.drewN, Nat.add_assoc]⟩⟩

def badB (a b x y : Nat) : Bool := decide (cnt a 7 < 2 * cnt (a &&& (x &&& a)) 7) && decide (cnt b 7 < 2 * cnt (b &&& (y &&& b)) 7) && ((x &&& a) &&& (y &&& b) == 0)
theorem badB_iff (a b x y : Nat) : badB a b x y = true ↔ bad a b x y := by unfold badB bad; simp [and_assoc]
set_option maxRecDepth 100000 in
set_option maxHeartbeats 3200000 in
theorem rmeets_good (a b : Nat) (ha : a < 128) (hb : b < 128) (a0 : a ≠ 0) (b0 : b ≠ 0) (w : World) :
    Calls Try.prog 23 #[.int .u8 a, .int .u8 b] w fun e w' => (∃ v, e = .returned (.bool v) ∧ (v = true ↔ ∀ x, x < 128 → ∀ y, y < 128 → ¬ bad a b x y)) ∧ w = w' := by
  have ma := rmay_c a (by omega) w
  have mb := rmay_c b (by omega) w
  rw [show mayB a = true by unfold mayB; exact decide_eq_true ⟨a0, ha⟩] at ma
  rw [show mayB b = true by unfold mayB; exact decide_eq_true ⟨b0, hb⟩] at mb
  go_enter Try.func23, Try.ntmps23
  go_wp2_with (first | (go_at_call 17; refine ma.mono ?_; clear ma; rintro e w' ⟨rfl, rfl⟩) | (go_at_call 17; refine mb.mono ?_; clear mb; rintro e w' ⟨rfl, rfl⟩))
  go_loopw [5, 6, 7, 8] (fun x y p q wr => ∃ i : Nat, i ≤ 128 ∧ x = .int .i64 i ∧ (∀ x, x < i → ∀ y, y < 128 → ¬ bad a b x y) ∧ w = wr) (fun x y p q _ => 128 - (intOf x).toNat)
  case atStart => exact ⟨0, by omega, rfl, fun x h => by omega, rfl⟩
  case round =>
    obtain ⟨i, hi, rfl, hI, rfl⟩ := hrel
    by_cases hlt : i < 128
    · have hlt' : (i : Int) < 128 := by omega
      go_wp2
      go_loopw [6, 7, 8] (fun y p q wr => ∃ j : Nat, j ≤ 128 ∧ y = .int .i64 j ∧ (∀ y, y < j → ¬ bad a b i y) ∧ w = wr) (fun y p q _ => 128 - (intOf y).toNat)
      case atStart => exact ⟨0, by omega, rfl, fun x h => by omega, rfl⟩
      case round =>
        obtain ⟨j, hj, rfl, hJ, rfl⟩ := hrel
        by_cases hlt2 : j < 128
        · have e1 := go_and i a (by omega) (by omega)
          have e2 := go_and j b (by omega) (by omega)
          have la := and_lt i a (by omega)
          have lb := and_lt j b (by omega)
          have e3 := go_and (i &&& a) (j &&& b) la lb
          have m1 := rmost_c a (i &&& a) (by omega) la w
          have m2 := rmost_c b (j &&& b) (by omega) lb w
          by_cases hg : bad a b i j
          · obtain ⟨g1, g2, g3⟩ := hg
            rw [decide_eq_true g1] at m1
            rw [decide_eq_true g2] at m2
            have e4 : bits BinOp.and IntKind.u8 ((i &&& a : Nat) : Int) ((j &&& b : Nat) : Int) = 0 := by rw [e3, g3]; rfl
            have hx := Lib.hid (show ¬ ∀ x, x < 128 → ∀ y, y < 128 → ¬ bad a b x y from fun h => h i hlt j hlt2 ⟨g1, g2, g3⟩)
            clear e3 g1 g2 g3
            go_wp2_with (first | (go_at_call 21; refine m1.mono ?_; clear m1; rintro e w' ⟨rfl, rfl⟩) | (go_at_call 21; refine m2.mono ?_; clear m2; rintro e w' ⟨rfl, rfl⟩))
            go_ret
            exact ⟨⟨_, rfl, ⟨fun h => absurd h (by decide), fun h => absurd h hx.out⟩⟩, rfl⟩
          · have hn := Lib.hid hg
            by_cases g1 : cnt a 7 < 2 * cnt (a &&& (i &&& a)) 7
            · rw [decide_eq_true g1] at m1
              by_cases g2 : cnt b 7 < 2 * cnt (b &&& (j &&& b)) 7
              · rw [decide_eq_true g2] at m2
                have g3 : ¬ (i &&& a) &&& (j &&& b) = 0 := fun h => hg ⟨g1, g2, h⟩
                have e4 : ¬ bits BinOp.and IntKind.u8 ((i &&& a : Nat) : Int) ((j &&& b : Nat) : Int) = 0 := by rw [e3]; omega
                clear e3 g1 g2 g3
                clear hg
                go_wp2_with (first | (go_at_call 21; refine m1.mono ?_; clear m1; rintro e w' ⟨rfl, rfl⟩) | (go_at_call 21; refine m2.mono ?_; clear m2; rintro e w' ⟨rfl, rfl⟩))
                go_roundw
                case rel => exact ⟨j + 1, by omega, by simp, fun y hy => by
                  by_cases h : y = j
                  · subst h; exact hn.out
                  · exact hJ y (by omega), by trivial⟩
                case measure => simp [intOf]; omega
              · rw [decide_eq_false g2] at m2
                clear g1 g2
                clear hg
                go_wp2_with (first | (go_at_call 21; refine m1.mono ?_; clear m1; rintro e w' ⟨rfl, rfl⟩) | (go_at_call 21; refine m2.mono ?_; clear m2; rintro e w' ⟨rfl, rfl⟩))
                go_roundw
                case rel => exact ⟨j + 1, by omega, by simp, fun y hy => by
                  by_cases h : y = j
                  · subst h; exact hn.out
                  · exact hJ y (by omega), by trivial⟩
                case measure => simp [intOf]; omega
            · rw [decide_eq_false g1] at m1
              clear g1
              clear hg
              go_wp2_with (first | (go_at_call 21; refine m1.mono ?_; clear m1; rintro e w' ⟨rfl, rfl⟩) | (go_at_call 21; refine m2.mono ?_; clear m2; rintro e w' ⟨rfl, rfl⟩))
              go_roundw
              case rel => exact ⟨j + 1, by omega, by simp, fun y hy => by
                by_cases h : y = j
                · subst h; exact hn.out
                · exact hJ y (by omega), by trivial⟩
              case measure => simp [intOf]; omega
        · obtain rfl : j = 128 := by omega
          go_wp2
          go_roundw
          case rel => exact ⟨i + 1, by omega, by simp, fun x hx y hy => by
            by_cases h : x = i
            · subst h; exact hJ y hy
            · exact hI x (by omega) y hy, by trivial⟩
          case measure => simp [intOf]; omega
    · obtain rfl : i = 128 := by omega
      go_wp2
      go_ret
      exact ⟨⟨_, rfl, ⟨fun _ => hI, fun _ => rfl⟩⟩, rfl⟩
end Go.Proofs.Ytgmbhbhjlhpbgaa
