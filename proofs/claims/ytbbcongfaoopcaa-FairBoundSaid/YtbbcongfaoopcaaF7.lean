/- The scheduler: heads as they come in. -/
import Derived.Test.YtbbcongfaoopcaaF6
namespace Go.Proofs.Ytbbcongfaoopcaa
open Go.ChangeShapes Go.WideShapes Go.ChangeAt Go.RowKit Go.Maps
set_option linter.unusedVariables false
set_option linter.unusedSimpArgs false
open BigFrame Pk Fq Vr Fa

namespace Fa
def headBad (s : Int) : Bool := decide (s < 0) || decide (1500 < s)
def IdxH (N : Nat) (S F : Nat → Int) (w : World) (e : Ending) (w' : World) : Prop := ∃ r : Int, e = .returned (.int .i64 r) ∧ (r < 0 ↔ ∀ i, i < N → headBad (S i) = false) ∧ Below w.heap.size w w'
end Fa

set_option maxRecDepth 100000 in
set_option maxHeartbeats 2000000 in
theorem hbad_c (s f : Int) (w : World) :
    Calls Try.prog 28 #[.agg #[.int .i64 s, .int .i64 f]] w fun e w' => e = .returned (.bool (headBad s)) ∧ w' = w.alloc (.cells #[.int .i64 s, .int .i64 f] 60) := by
  unfold headBad
  by_cases h1 : s < 0
  · go_enter Try.func28, Try.ntmps28
    go_wp2_with fail
    exact bodyPost_ret (v := .bool true) (by simp [results, Try.results28, go_sem]) rfl ⟨by simp [h1], rfl⟩
  by_cases h3 : 1500 < s
  · go_enter Try.func28, Try.ntmps28
    go_wp2_with fail
    exact bodyPost_ret (v := .bool true) (by simp [results, Try.results28, go_sem]) rfl ⟨by simp [h3], rfl⟩
  · go_enter Try.func28, Try.ntmps28
    go_wp2_with fail
    exact bodyPost_ret (v := .bool false) (by simp [results, Try.results28, go_sem]) rfl ⟨by simp [h1, h3], rfl⟩

set_option maxRecDepth 100000 in
set_option maxHeartbeats 2000000 in
theorem hidx_c (a : Option Addr) (b off N c : Nat) (S F : Nat → Int) (w : World) (T : TagsAt w a b off N S F) (hN : N ≤ 1000) :
    Calls Try.prog 39 #[.slice a N c, .func (.func 28) #[] #[]] w (IdxH N S F w) := by
  by_cases h0 : 0 < N
  · obtain rfl := T.ha h0
    have hrow : ∀ (W : World), Below w.heap.size w W → ∀ j, j < N → W.cell? ⟨b, off + j * 2, none⟩ = some (.int .i64 (S j)) ∧ W.cell? ⟨b, off + j * 2 + 1, none⟩ = some (.int .i64 (F j)) := fun W hW j hj => ⟨(T.bel hW).c0 j hj, (T.bel hW).c1 j hj⟩
    clear T
    go_enter Try.func39, Try.ntmps39
    go_wp2_with fail
    go_loopg [5, 8] N (fun gg _ s8 wr => ∃ kk : Nat, kk ≤ N ∧ N - kk ≤ gg ∧ s8 = .int .i64 kk ∧ Aside (Below w.heap.size w wr) ∧ Aside (∀ j, j < kk → headBad (S j) = false))
    case atStart => exact ⟨0, Nat.zero_le _, by omega, rfl, Below.refl _ w, fun j hj => absurd hj (Nat.not_lt_zero _)⟩
    case round =>
      obtain ⟨kk, hkk, hg, rfl, BW, A⟩ := hrel
      by_cases hlt : kk < N
      · have hltz : (kk : Int) < (N : Int) := by omega
        obtain ⟨l0, l1⟩ := hrow wr BW.out kk hlt
        have hcall := hbad_c (S kk) (F kk) wr
        have hB2 := BW.out.alloc BW.out.size (.cells #[.int .i64 (S kk), .int .i64 (F kk)] 60)
        cases hq : headBad (S kk) with
        | true =>
          rw [hq] at hcall
          go_wp2_with fail
          refine hcall.mono ?_
          rintro e w' ⟨rfl, rfl⟩
          go_wp2_with fail
          go_ret
          exact ⟨_, rfl, ⟨fun h => absurd h (by omega), fun h => by have := h kk hlt; rw [hq] at this; cases this⟩, hB2⟩
        | false =>
          rw [hq] at hcall
          go_wp2_with fail
          refine hcall.mono ?_
          rintro e w' ⟨rfl, rfl⟩
          go_wp2_with fail
          go_roundg (N - (kk + 1))
          case measure => omega
          case rel =>
            refine ⟨kk + 1, by omega, by omega, by go_num, hB2, (show Aside _ from fun j hj => ?_)⟩
            by_cases e : j = kk
            · subst e
              exact hq
            · exact A.out j (by omega)
      · have hltz : ¬ (kk : Int) < (N : Int) := by omega
        have : kk = N := by omega
        subst this
        go_wp2
        go_ret
        exact ⟨_, rfl, ⟨fun _ => A.out, fun _ => by omega⟩, BW.out⟩
  · obtain rfl : N = 0 := by omega
    clear T
    go_enter Try.func39, Try.ntmps39
    go_wp2_with fail
    go_loopg [5, 8] 0 (fun _ _ s8 wr => s8 = .int .i64 0 ∧ wr = w)
    case atStart => exact ⟨rfl, rfl⟩
    case round =>
      obtain ⟨rfl, rfl⟩ := hrel
      go_wp2
      go_ret
      exact ⟨_, rfl, ⟨fun _ j hj => absurd hj (Nat.not_lt_zero _), fun _ => by omega⟩, Below.refl _ _⟩

set_option maxRecDepth 100000 in
theorem hcontains_c (a : Option Addr) (b off N c : Nat) (S F : Nat → Int) (w : World) (T : TagsAt w a b off N S F) (hN : N ≤ 1000) :
    Calls Try.prog 27 #[.slice a N c, .func (.func 28) #[] #[]] w fun e w' => e = .returned (.bool (!decide (∀ i, i < N → headBad (S i) = false))) ∧ Below w.heap.size w w' := by
  have hc := hidx_c a b off N c S F w T hN
  clear T
  go_enter Try.func27, Try.ntmps27
  go_wp2_with (go_at_call 39; refine hc.mono ?_; rintro e w' ⟨r, rfl, hr, hb⟩)
  go_ret
  refine ⟨?_, hb⟩
  by_cases h : r < 0
  · rw [decide_eq_true (hr.1 h), decide_eq_false (by omega)]; rfl
  · rw [decide_eq_false (fun k => h (hr.2 k)), decide_eq_true (by omega)]; rfl
end Go.Proofs.Ytbbcongfaoopcaa
