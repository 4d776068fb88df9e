/- Shares: how much is granted. -/
import Derived.Test.YtifohibpcngakaaFr
import Derived.WalkLawsBesides
namespace Go.Proofs.Ytifohibpcngakaa
open Go.ChangeShapes Go.WideShapes Go.ChangeAt Go.RowKit
set_option linter.unusedVariables false
set_option linter.unusedSimpArgs false
open BigFrame Bs
attribute [local go_sem] Bs.max_fold Bs.min_fold

namespace Gr
/-- Parted and rounded up. -/
def upI (n b : Int) : Int := if 0 < n % b then n / b + 1 else n / b
def wantI (x : Int) : Int := max x 0
def shareI (bu wa ot le mo : Int) : Int :=
  if min (upI (max bu 0 / 1000) (1 + min 8 (max ot 0))) (min (max mo 0) (max wa 0)) < max wa 0 ∧ min (upI (max bu 0 / 1000) (1 + min 8 (max ot 0))) (min (max mo 0) (max wa 0)) < le then 0
  else min (upI (max bu 0 / 1000) (1 + min 8 (max ot 0))) (min (max mo 0) (max wa 0))
theorem up_b {n b : Int} (h : 0 ≤ n) (h1 : 1 ≤ b) (h2 : b ≤ 9) : 0 ≤ upI n b ∧ upI n b ≤ n := by
  unfold upI
  have : b = 1 ∨ b = 2 ∨ b = 3 ∨ b = 4 ∨ b = 5 ∨ b = 6 ∨ b = 7 ∨ b = 8 ∨ b = 9 := by omega
  rcases this with rfl | rfl | rfl | rfl | rfl | rfl | rfl | rfl | rfl <;> (split <;> omega)
theorem share_b (bu wa ot le mo : Int) : 0 ≤ shareI bu wa ot le mo ∧ shareI bu wa ot le mo ≤ max wa 0 ∧ shareI bu wa ot le mo ≤ max bu 0 / 1000 ∧ shareI bu wa ot le mo ≤ max mo 0 := by
  have hb : 0 ≤ max bu 0 / 1000 := by omega
  have h := up_b hb (show 1 ≤ 1 + min 8 (max ot 0) by omega) (by omega)
  unfold shareI
  split <;> omega
end Gr
open Gr

set_option maxRecDepth 100000 in
theorem up_c (n b : Int) (w : World) (h : 0 ≤ n) (hn : n ≤ 9223372036854775) (h1 : 1 ≤ b) (h2 : b ≤ 9) : Calls Try.prog 21 #[.int .i64 n, .int .i64 b] w fun e w' => e = .returned (.int .i64 (upI n b)) ∧ w' = w := by
  have hb := up_b h h1 h2
  have hz : ¬ b = 0 := by omega
  have hq : 0 ≤ n / b := Int.ediv_nonneg h (by omega)
  have hq2 : n / b ≤ n := Int.ediv_le_self b h
  have e : upI n b = upI n b := rfl
  by_cases hr : 0 < n % b
  · have e2 : upI n b = n / b + 1 := by unfold upI; rw [if_pos hr]
    rw [e2]
    clear e e2 hb
    go_enter Try.func21, Try.ntmps21
    go_wp2_with fail
    go_ret
    exact ⟨rfl, rfl⟩
  · have e2 : upI n b = n / b := by unfold upI; rw [if_neg hr]
    rw [e2]
    clear e e2 hb
    go_enter Try.func21, Try.ntmps21
    go_wp2_with fail
    go_ret
    exact ⟨rfl, rfl⟩

set_option maxRecDepth 100000 in
set_option maxHeartbeats 4000000 in
theorem share_c (bu wa ot le mo : Int) (w : World) (hbu : bu ≤ 9223372036854775807) : Calls Try.prog 6 #[.int .i64 bu, .int .i64 wa, .int .i64 ot, .int .i64 le, .int .i64 mo] w fun e w' => e = .returned (.int .i64 (shareI bu wa ot le mo)) ∧ w' = w := by
  have hup := up_c (max bu 0 / 1000) (1 + min 8 (max ot 0)) w (by omega) (by omega) (by omega) (by omega)
  unfold shareI
  obtain ⟨U, hU⟩ : ∃ x, upI (max bu 0 / 1000) (1 + min 8 (max ot 0)) = x := ⟨_, rfl⟩
  rw [hU] at hup ⊢
  replace hup := Lib.hid hup
  obtain ⟨O, hO⟩ : ∃ x, min U (min (max mo 0) (max wa 0)) = x := ⟨_, rfl⟩
  rw [hO]
  replace hO := Lib.hid hO
  clear hU
  have b0 : 0 ≤ max bu 0 := by omega
  have b1 : min 8 (max ot 0) ≤ 8 := by omega
  have b2 : 0 ≤ min 8 (max ot 0) := by omega
  by_cases hc1 : O < max wa 0
  · by_cases hc2 : O < le
    · rw [if_pos ⟨hc1, hc2⟩]
      go_enter Try.func6, Try.ntmps6
      go_wp2_with fail
      refine hup.out.mono ?_
      rintro e w' ⟨rfl, rfl⟩
      clear hup
      go_upto_region 4 with fail
      rw [hO.out]
      go_wp2_with fail
      go_ret
      exact ⟨rfl, rfl⟩
    · rw [if_neg (fun h => hc2 h.2)]
      go_enter Try.func6, Try.ntmps6
      go_wp2_with fail
      refine hup.out.mono ?_
      rintro e w' ⟨rfl, rfl⟩
      clear hup
      go_upto_region 4 with fail
      rw [hO.out]
      go_wp2_with fail
      go_ret
      exact ⟨rfl, rfl⟩
  · rw [if_neg (fun h => hc1 h.1)]
    go_enter Try.func6, Try.ntmps6
    go_wp2_with fail
    refine hup.out.mono ?_
    rintro e w' ⟨rfl, rfl⟩
    clear hup
    go_upto_region 4 with fail
    rw [hO.out]
    go_wp2_with fail
    go_ret
    exact ⟨rfl, rfl⟩

set_option maxRecDepth 100000 in
set_option maxHeartbeats 4000000 in
theorem rshare_c (bu wa ot le mo : Int) (w : World) (hbu : bu ≤ 9223372036854775807) : Calls Try.prog 7 #[.int .i64 bu, .int .i64 wa, .int .i64 ot, .int .i64 le, .int .i64 mo] w fun e w' => e = .returned (.int .i64 (shareI bu wa ot le mo)) ∧ w' = w := by
  have hb := up_b (show 0 ≤ max bu 0 / 1000 by omega) (show 1 ≤ 1 + min 8 (max ot 0) by omega) (by omega)
  have hup : upI (max bu 0 / 1000) (1 + min 8 (max ot 0)) = upI (max bu 0 / 1000) (min 8 (max ot 0) + 1) := by rw [Int.add_comm]
  unfold shareI
  rw [hup] at hb ⊢
  clear hup
  obtain ⟨WH, hWH⟩ : ∃ x, max bu 0 / 1000 = x := ⟨_, rfl⟩
  obtain ⟨N, hN⟩ : ∃ x, min 8 (max ot 0) + 1 = x := ⟨_, rfl⟩
  have w1 : 0 ≤ WH := by omega
  have w2 : WH ≤ 9223372036854775 := by omega
  have n1 : 1 ≤ N := by omega
  have n2 : N ≤ 9 := by omega
  have b0 : 0 ≤ max bu 0 := by omega
  have b1 : min 8 (max ot 0) ≤ 8 := by omega
  have b2 : 0 ≤ min 8 (max ot 0) := by omega
  rw [hWH, hN] at hb ⊢
  have hz : ¬ N = 0 := by omega
  have q1 : 0 ≤ WH / N := Int.ediv_nonneg w1 (by omega)
  have q2 : WH / N ≤ WH := Int.ediv_le_self N w1
  obtain ⟨U, hU⟩ : ∃ x, upI WH N = x := ⟨_, rfl⟩
  rw [hU] at hb ⊢
  obtain ⟨O, hO⟩ : ∃ x, min U (min (max mo 0) (max wa 0)) = x := ⟨_, rfl⟩
  rw [hO]
  have o0 : 0 ≤ O := by omega
  obtain ⟨R, hR⟩ : ∃ x, (if O < max wa 0 ∧ O < le then 0 else O) = x := ⟨_, rfl⟩
  rw [hR]
  have hup : (0 < WH % N → U = WH / N + 1) ∧ (¬ 0 < WH % N → U = WH / N) := by
    unfold upI at hU
    exact ⟨fun h => by rw [if_pos h] at hU; exact hU.symm, fun h => by rw [if_neg h] at hU; exact hU.symm⟩
  have hr1 : O < max le 0 → O < max wa 0 → R = 0 := fun h1 h2 => by rw [if_pos ⟨h2, by omega⟩] at hR; exact hR.symm
  have hr2 : ¬ (O < max le 0 ∧ O < max wa 0) → R = O := fun h => by rw [if_neg (fun q => h ⟨by omega, q.1⟩)] at hR; exact hR.symm
  replace hWH := Lib.hid hWH
  replace hN := Lib.hid hN
  replace hO := Lib.hid hO
  replace hup := Lib.hid hup
  replace hr1 := Lib.hid hr1
  replace hr2 := Lib.hid hr2
  clear hR hU hb
  go_enter Try.func7, Try.ntmps7
  go_upto_region 3 with fail
  rw [hWH.out, hN.out]
  by_cases hr : 0 < WH % N
  · obtain hu := hup.out.1 hr
    rw [hu] at hO
    replace hO := Lib.hid hO.out
    clear hu hup
    go_upto_region 9 with fail
    rw [hO.out]
    by_cases hc1 : O < max le 0
    · by_cases hc2 : O < max wa 0
      · obtain h0 := Lib.hid (hr1.out hc1 hc2)
        go_wp2_with fail
        go_ret
        exact ⟨by rw [h0.out]; rfl, rfl⟩
      · obtain h0 := Lib.hid (hr2.out (fun q => hc2 q.2))
        go_wp2_with fail
        go_ret
        exact ⟨by rw [h0.out]; rfl, rfl⟩
    · obtain h0 := Lib.hid (hr2.out (fun q => hc1 q.1))
      go_wp2_with fail
      go_ret
      exact ⟨by rw [h0.out]; rfl, rfl⟩
  · obtain hu := hup.out.2 hr
    rw [hu] at hO
    replace hO := Lib.hid hO.out
    clear hu hup
    go_upto_region 9 with fail
    rw [hO.out]
    by_cases hc1 : O < max le 0
    · by_cases hc2 : O < max wa 0
      · obtain h0 := Lib.hid (hr1.out hc1 hc2)
        go_wp2_with fail
        go_ret
        exact ⟨by rw [h0.out]; rfl, rfl⟩
      · obtain h0 := Lib.hid (hr2.out (fun q => hc2 q.2))
        go_wp2_with fail
        go_ret
        exact ⟨by rw [h0.out]; rfl, rfl⟩
    · obtain h0 := Lib.hid (hr2.out (fun q => hc1 q.1))
      go_wp2_with fail
      go_ret
      exact ⟨by rw [h0.out]; rfl, rfl⟩
end Go.Proofs.Ytifohibpcngakaa
