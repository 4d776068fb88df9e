/- The statement StampNever of layer 20 (stamp): the other ways, and the whole. -/
import Derived.Test.YtnbgilgnkedojaaStampNever2
namespace Go.Proofs.Ytnbgilgnkedojaa
open Go.ChangeShapes Go.WideShapes Go.ChangeAt Go.RowKit
set_option linter.unusedVariables false
set_option linter.unusedSimpArgs false
attribute [local go_sem] max_fold min_fold
open Ck Nv

theorem never_long (w : World) (r : Int) (a a' : Option Addr) (len cap len' cap' : Nat) (hl : 100 < len) (hl' : len ≤ 9223372036854775807) :
    Calls Try.prog 17 #[.int .i64 r, .slice a len cap, .slice a' len' cap'] w fun e w' => e = .returned (.bool true) ∧ Below w.heap.size w w' := by
  have h1 : (100 : Int) < (len : Int) := by omega
  have h2 : (len : Int) ≤ 9223372036854775807 := by omega
  go_enter Try.func17, Try.ntmps17
  go_wp2_with (go_at_call 36; refine (wakes20_c _).mono ?_; rintro e w1 ⟨rfl, hb1⟩)
  go_ret
  exact ⟨rfl, hb1⟩

theorem never_short (w : World) (r : Int) (a a' : Option Addr) (len cap len' cap' : Nat) (hl : len ≤ 100) (hl' : len' < len) :
    Calls Try.prog 17 #[.int .i64 r, .slice a len cap, .slice a' len' cap'] w fun e w' => e = .returned (.bool true) ∧ Below w.heap.size w w' := by
  have h1 : (len : Int) ≤ 100 := by omega
  have h2 : (len' : Int) < (len : Int) := by omega
  go_enter Try.func17, Try.ntmps17
  go_wp2_with (go_at_call 36; refine (wakes20_c _).mono ?_; rintro e w1 ⟨rfl, hb1⟩)
  go_ret
  exact ⟨rfl, hb1⟩

theorem never_no (w : World) (r : Int) (a a' : Option Addr) (len cap len' cap' : Nat) (hl : len ≤ 100) (hl' : len ≤ len') (hm : len' ≤ 9223372036854775807) (hr : r < 0 ∨ 200 < r) :
    Calls Try.prog 17 #[.int .i64 r, .slice a len cap, .slice a' len' cap'] w fun e w' => e = .returned (.bool true) ∧ Below w.heap.size w w' := by
  have h1 : (len : Int) ≤ 100 := by omega
  have h2 : (len : Int) ≤ (len' : Int) := by omega
  have h3 : (len' : Int) ≤ 9223372036854775807 := by omega
  have hn := Lib.hid (new_no r w hr)
  clear hr
  go_enter Try.func17, Try.ntmps17
  go_wp2_with fail
  refine hn.out.mono ?_
  rintro e wn ⟨rfl, rfl⟩
  go_wp2_with (go_at_call 36; refine (wakes20_c _).mono ?_; rintro e w1 ⟨rfl, hb1⟩)
  go_ret
  exact ⟨rfl, hb1⟩

set_option maxRecDepth 100000 in
theorem never_nil (w : World) (r : Int) (a a' : Option Addr) (cap len' cap' : Nat) (hm : len' ≤ 9223372036854775807) (r0 : 0 ≤ r) (r1 : r ≤ 200) :
    Calls Try.prog 17 #[.int .i64 r, .slice a 0 cap, .slice a' len' cap'] w fun e w' => e = .returned (.bool true) ∧ Below w.heap.size w w' := by
  have h2 : (0 : Int) ≤ (len' : Int) := by omega
  have h3 : (len' : Int) ≤ 9223372036854775807 := by omega
  go_enter Try.func17, Try.ntmps17
  go_wp2_with fail
  refine (new_ok r _ r0 r1).mono ?_
  rintro e wa ⟨rfl, hC0, hBa⟩
  go_wp2_with fail
  refine (now_c _ _ _ _ _ hC0).mono ?_
  rintro e w' ⟨rfl, rfl⟩
  go_wp2_with fail
  refine (snew_ok r 0 _ r0 r1 (by omega) (by omega)).mono ?_
  rintro e wb ⟨rfl, hS0, hBb⟩
  have hBB := belowNext hBa hBb (Nat.le_refl _)
  clear hC0 hS0
  go_wp2
  go_loop [11, 13, 14, 15] (fun u s l i => u = .slice none 0 0 ∧ s = .int .i64 0 ∧ l = .int .i64 0 ∧ i = .int .i64 0) (fun _ _ _ i => 0)
  case atStart => exact ⟨rfl, rfl, rfl, rfl⟩
  case round =>
    obtain ⟨rfl, rfl, rfl, rfl⟩ := hrel
    go_wp2
    go_loop [19] (fun i => i = .int .i64 0) (fun i => 0)
    case atStart => rfl
    case round =>
      subst hrel
      go_wp2_with (go_at_call 36; refine (wakes20_c _).mono ?_; rintro e w3 ⟨rfl, hb3⟩)
      go_ret
      exact ⟨rfl, belowNext hBB hb3 (by have := hBB.size; omega)⟩

theorem stampNever_walk (w : World) (a0 : Int) (v1 : Value) (a1 : XT_Lint) (v2 : Value) (a2 : XT_Lint) (w0 : (Lit.int .i64 a0).wf = true) (w1 : Is_Lint w v1 a1) (w2 : Is_Lint w v2 a2) :
    Calls Try.prog 17 #[.int .i64 a0, v1, v2] w fun e w' => e = .returned (.bool true) ∧ Below w.heap.size w w' := by
  obtain ⟨a, len, cap, rfl, hl, hm, hrow⟩ := w1
  obtain ⟨a', len', cap', rfl, hl', hm', hrow'⟩ := w2
  by_cases hn : 100 < len
  · exact never_long w a0 a a' len cap len' cap' hn (by omega)
  · by_cases hs : len' < len
    · exact never_short w a0 a a' len cap len' cap' (by omega) hs
    · by_cases h : a0 < 0 ∨ 200 < a0
      · exact never_no w a0 a a' len cap len' cap' (by omega) (by omega) (by omega) h
      · by_cases hp : 0 < len
        · obtain ⟨b, off, rfl, hb, hf⟩ := hrow hp
          obtain ⟨b', off', rfl, hb', hf'⟩ := hrow' (by omega)
          exact never_good w a0 b off len cap a1 b' off' len' cap' a2 hb hb' hp (by omega) (by omega) hl hl' hm' (by omega) (by omega) hf hf'
        · obtain rfl : len = 0 := by omega
          exact never_nil w a0 a a' cap len' cap' (by omega) (by omega) (by omega)
end Go.Proofs.Ytnbgilgnkedojaa
