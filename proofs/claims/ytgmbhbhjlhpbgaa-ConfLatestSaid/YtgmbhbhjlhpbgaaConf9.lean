/- The walks of ConfSizes and ConfOne. -/
import Derived.Test.YtgmbhbhjlhpbgaaConf8
import Derived.Test.YtgmbhbhjlhpbgaaConfP
namespace Go.Proofs.Ytgmbhbhjlhpbgaa
open Go.ChangeShapes Go.WideShapes Go.ChangeAt Go.RowKit
set_option linter.unusedVariables false
set_option linter.unusedSimpArgs false
open B7 Cf Mt

theorem i64_in {a : Int} (h : (Lit.int .i64 a).wf = true) : -9223372036854775808 ≤ a ∧ a ≤ 9223372036854775807 := by
  simp [Lit.wf, IntKind.min, IntKind.max, IntKind.bits, IntKind.signed] at h
  omega
theorem lower {a b c : World} (h : Below a.heap.size a b) (k : Below b.heap.size b c) : Below a.heap.size a c := h.trans (k.mono h.size)

set_option maxRecDepth 100000 in
set_option maxHeartbeats 3200000 in
theorem confSizes_walk (w : World) (a0 a1 : Int) (w0 : (Lit.int .u8 a0).wf = true) (w1 : (Lit.int .i64 a1).wf = true) :
    Calls Try.prog 11 #[.int .u8 a0, .int .i64 a1] w fun e w' => e = .returned (.bool true) ∧ Below w.heap.size w w' := by
  obtain ⟨s, hs, rfl⟩ := u8_nat w0
  clear w0 w1
  have c1 := add_c s hs a1 w
  have c2 := rem_c s hs a1 w
  have wk := wakes12_c w
  by_cases ha : addE s a1 = 0
  · have hr : ¬ remE s a1 = 0 := fun h => More.notBoth ha h
    have M := more_of_add ha
    obtain ⟨x, hx⟩ : ∃ x, addV s a1 = x := ⟨_, rfl⟩
    obtain ⟨re, hre⟩ : ∃ x, remE s a1 = x := ⟨_, rfl⟩
    obtain ⟨rv, hrv⟩ : ∃ x, remV s a1 = x := ⟨_, rfl⟩
    rw [ha, hx] at c1
    rw [hre, hrv] at c2
    rw [hre] at hr
    rw [hx] at M
    have xl : x < 256 := by have := M.xl; omega
    have d1 := rem_c x xl a1 w
    rw [M.remE0.1, M.remE0.2] at d1
    have d2 := size_c x xl w
    have d3 := size_c s hs w
    have hc := M.c
    have hl := cnt_le s 7
    rw [hc] at d2
    have d4 := has_c x xl a1 w
    have d5 := has_c s hs a1 w
    rw [M.hx] at d4
    rw [M.hy] at d5
    clear M ha hx hre hrv hc
    go_enter Try.func11, Try.ntmps11
    go_wp2_with (first | (go_at_call 40; refine c1.mono ?_; clear c1; rintro e w' ⟨rfl, rfl⟩) | (go_at_call 42; refine d1.mono ?_; clear d1; rintro e w' ⟨rfl, rfl⟩) | (go_at_call 42; refine c2.mono ?_; clear c2; rintro e w' ⟨rfl, rfl⟩) | (go_at_call 19; refine d2.mono ?_; clear d2; rintro e w' ⟨rfl, rfl⟩) | (go_at_call 19; refine d3.mono ?_; clear d3; rintro e w' ⟨rfl, rfl⟩) | (go_at_call 18; refine d4.mono ?_; clear d4; rintro e w' ⟨rfl, rfl⟩) | (go_at_call 18; refine d5.mono ?_; clear d5; rintro e w' ⟨rfl, rfl⟩) | (go_at_call 24; refine wk.mono ?_; clear wk; rintro e w' ⟨rfl, hbw⟩))
    go_ret
    exact ⟨rfl, hbw⟩
  · by_cases hr : remE s a1 = 0
    · have M := more_of_rem hr
      obtain ⟨x, hx⟩ : ∃ x, remV s a1 = x := ⟨_, rfl⟩
      obtain ⟨ae, hae⟩ : ∃ x, addE s a1 = x := ⟨_, rfl⟩
      obtain ⟨av, hav⟩ : ∃ x, addV s a1 = x := ⟨_, rfl⟩
      rw [hae, hav] at c1
      rw [hr, hx] at c2
      rw [hae] at ha
      rw [hx] at M
      have xl : x < 256 := by have := M.yl; omega
      have d1 := add_c x xl a1 w
      rw [M.addE0.1, M.addE0.2] at d1
      have d2 := size_c x xl w
      have d3 := size_c s hs w
      have hc := M.c
      have hl := cnt_le x 7
      rw [hc] at d3
      have d4 := has_c x xl a1 w
      have d5 := has_c s hs a1 w
      rw [M.hy] at d4
      rw [M.hx] at d5
      clear M hr hx hae hav hc
      go_enter Try.func11, Try.ntmps11
      go_wp2_with (first | (go_at_call 40; refine c1.mono ?_; clear c1; rintro e w' ⟨rfl, rfl⟩) | (go_at_call 40; refine d1.mono ?_; clear d1; rintro e w' ⟨rfl, rfl⟩) | (go_at_call 42; refine c2.mono ?_; clear c2; rintro e w' ⟨rfl, rfl⟩) | (go_at_call 19; refine d2.mono ?_; clear d2; rintro e w' ⟨rfl, rfl⟩) | (go_at_call 19; refine d3.mono ?_; clear d3; rintro e w' ⟨rfl, rfl⟩) | (go_at_call 18; refine d4.mono ?_; clear d4; rintro e w' ⟨rfl, rfl⟩) | (go_at_call 18; refine d5.mono ?_; clear d5; rintro e w' ⟨rfl, rfl⟩) | (go_at_call 24; refine wk.mono ?_; clear wk; rintro e w' ⟨rfl, hbw⟩))
      go_ret
      exact ⟨rfl, hbw⟩
    · obtain ⟨ae, hae⟩ : ∃ x, addE s a1 = x := ⟨_, rfl⟩
      obtain ⟨av, hav⟩ : ∃ x, addV s a1 = x := ⟨_, rfl⟩
      obtain ⟨re, hre⟩ : ∃ x, remE s a1 = x := ⟨_, rfl⟩
      obtain ⟨rv, hrv⟩ : ∃ x, remV s a1 = x := ⟨_, rfl⟩
      rw [hae, hav] at c1
      rw [hre, hrv] at c2
      rw [hae] at ha
      rw [hre] at hr
      clear hae hav hre hrv
      go_enter Try.func11, Try.ntmps11
      go_wp2_with (first | (go_at_call 40; refine c1.mono ?_; clear c1; rintro e w' ⟨rfl, rfl⟩) | (go_at_call 42; refine c2.mono ?_; clear c2; rintro e w' ⟨rfl, rfl⟩) | (go_at_call 24; refine wk.mono ?_; clear wk; rintro e w' ⟨rfl, hbw⟩))
      go_ret
      exact ⟨rfl, hbw⟩
end Go.Proofs.Ytgmbhbhjlhpbgaa
