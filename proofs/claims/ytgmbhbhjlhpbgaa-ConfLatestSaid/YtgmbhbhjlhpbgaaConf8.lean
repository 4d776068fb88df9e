/- The walks of ConfChanges and ConfSizes. -/
import Derived.Test.YtgmbhbhjlhpbgaaConf7
namespace Go.Proofs.Ytgmbhbhjlhpbgaa
open Go.ChangeShapes Go.WideShapes Go.ChangeAt Go.RowKit
set_option linter.unusedVariables false
set_option linter.unusedSimpArgs false
open B7 Cf Mt

theorem u8_nat {a : Int} (h : (Lit.int .u8 a).wf = true) : ∃ n : Nat, n < 256 ∧ a = (n : Int) := by
  simp [Lit.wf, IntKind.min, IntKind.max, IntKind.bits, IntKind.signed] at h
  exact ⟨a.toNat, by omega, by omega⟩

set_option maxHeartbeats 1600000 in
theorem confChanges_walk (w : World) (a0 a1 : Int) (w0 : (Lit.int .u8 a0).wf = true) (w1 : (Lit.int .i64 a1).wf = true) :
    Calls Try.prog 9 #[.int .u8 a0, .int .i64 a1] w fun e w' => e = .returned (.bool true) ∧ Below w.heap.size w w' := by
  obtain ⟨s, hs, rfl⟩ := u8_nat w0
  clear w0 w1
  obtain ⟨av, hav⟩ : ∃ x, RowKit.Hid (addV s a1 = x) := ⟨_, Lib.hid rfl⟩
  obtain ⟨ae, hae⟩ : ∃ x, RowKit.Hid (addE s a1 = x) := ⟨_, Lib.hid rfl⟩
  obtain ⟨rv, hrv⟩ : ∃ x, RowKit.Hid (remV s a1 = x) := ⟨_, Lib.hid rfl⟩
  obtain ⟨re, hre⟩ : ∃ x, RowKit.Hid (remE s a1 = x) := ⟨_, Lib.hid rfl⟩
  have c1 := add_c s hs a1 w
  have c2 := radd_c s hs a1 w
  have c3 := rem_c s hs a1 w
  have c4 := rrem_c s hs a1 w
  rw [hav.out, hae.out] at c1 c2
  rw [hrv.out, hre.out] at c3 c4
  have wk := wakes12_c w
  go_enter Try.func9, Try.ntmps9
  go_wp2_with (first | (go_at_call 40; refine c1.mono ?_; clear c1; rintro e w' ⟨rfl, rfl⟩) | (go_at_call 41; refine c2.mono ?_; clear c2; rintro e w' ⟨rfl, rfl⟩) | (go_at_call 42; refine c3.mono ?_; clear c3; rintro e w' ⟨rfl, rfl⟩) | (go_at_call 43; refine c4.mono ?_; clear c4; rintro e w' ⟨rfl, rfl⟩) | (go_at_call 24; refine wk.mono ?_; clear wk; rintro e w' ⟨rfl, hbw⟩))
  go_ret
  exact ⟨rfl, hbw⟩
end Go.Proofs.Ytgmbhbhjlhpbgaa
