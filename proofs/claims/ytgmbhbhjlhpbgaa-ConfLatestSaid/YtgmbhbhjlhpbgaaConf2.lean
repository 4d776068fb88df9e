/- The contracts of conf's Add, Remove and of the reference's. -/
import Derived.Test.YtgmbhbhjlhpbgaaConf
namespace Go.Proofs.Ytgmbhbhjlhpbgaa
open Go.ChangeShapes Go.WideShapes Go.ChangeAt Go.RowKit
set_option linter.unusedVariables false
set_option linter.unusedSimpArgs false
open B7 Cf

namespace Cf
def addV (s : Nat) (n : Int) : Nat := if mayB s = false ∨ ¬ (1 ≤ n ∧ n ≤ 7) ∨ hasB s n = true then 0 else s ||| 2 ^ (n - 1).toNat
def addE (s : Nat) (n : Int) : Int := if mayB s = false ∨ ¬ (1 ≤ n ∧ n ≤ 7) then 2 else if hasB s n = true then 101 else 0
def remV (s : Nat) (n : Int) : Nat := if mayB s = false ∨ ¬ (1 ≤ n ∧ n ≤ 7) ∨ hasB s n = false ∨ cnt s 7 = 1 then 0 else s &&& (255 - 2 ^ (n - 1).toNat)
def remE (s : Nat) (n : Int) : Int := if mayB s = false ∨ ¬ (1 ≤ n ∧ n ≤ 7) then 2 else if hasB s n = false then 4 else if cnt s 7 = 1 then 100 else 0
theorem ret_ve {a b : Nat} {c d : Int} (h : a = b) (k : c = d) : Ending.returned (.tuple #[.int .u8 (a : Int), .int .i64 c]) = .returned (.tuple #[.int .u8 (b : Int), .int .i64 d]) := by rw [h, k]
theorem ret_vi {a : Int} {b : Nat} {c d : Int} (h : a = (b : Int)) (k : c = d) : Ending.returned (.tuple #[.int .u8 a, .int .i64 c]) = .returned (.tuple #[.int .u8 (b : Int), .int .i64 d]) := by rw [h, k]
theorem pow_lt (j : Nat) (h : j < 7) : 2 ^ j < 256 := by
  have : j = 0 ∨ j = 1 ∨ j = 2 ∨ j = 3 ∨ j = 4 ∨ j = 5 ∨ j = 6 := by omega
  rcases this with rfl | rfl | rfl | rfl | rfl | rfl | rfl <;> decide
theorem pow_go (j : Nat) (h : j < 7) : ((2 : Int) ^ j % 256) = ((2 ^ j : Nat) : Int) := by
  have : j = 0 ∨ j = 1 ∨ j = 2 ∨ j = 3 ∨ j = 4 ∨ j = 5 ∨ j = 6 := by omega
  rcases this with rfl | rfl | rfl | rfl | rfl | rfl | rfl <;> decide
theorem go_or (s j : Nat) (hs : s < 256) (hj : j < 7) : bits BinOp.or IntKind.u8 (s : Int) ((2 : Int) ^ j % 256) = ((s ||| 2 ^ j : Nat) : Int) := by
  rw [pow_go j hj]; exact u8_or_nat s (2 ^ j) hs (pow_lt j hj)
theorem go_andNot (s j : Nat) (hs : s < 256) (hj : j < 7) : bits BinOp.andNot IntKind.u8 (s : Int) ((2 : Int) ^ j % 256) = ((s &&& (255 - 2 ^ j) : Nat) : Int) := by
  rw [pow_go j hj]; exact u8_andNot_nat s (2 ^ j) hs (pow_lt j hj)
end Cf

set_option maxHeartbeats 1600000 in
theorem add_c (s : Nat) (hs : s < 256) (n : Int) (w : World) :
    Calls Try.prog 40 #[.int .u8 s, .int .i64 n] w fun e w' => e = .returned (.tuple #[.int .u8 (addV s n : Nat), .int .i64 (addE s n)]) ∧ w = w' := by
  have cm := setMay_c s hs w
  have ch := setHas_c s hs n w
  by_cases hm : mayB s = false
  · have e1 := Lib.hid (show addV s n = 0 by unfold addV; rw [if_pos (.inl hm)])
    have e2 := Lib.hid (show addE s n = 2 by unfold addE; rw [if_pos (.inl hm)])
    rw [hm] at cm
    clear hm
    go_enter Try.func40, Try.ntmps40
    go_wp2_with (first | (go_at_call 51; refine cm.mono ?_; clear cm; rintro e w' ⟨rfl, rfl⟩) | (go_at_call 50; refine ch.mono ?_; clear ch; rintro e w' ⟨rfl, rfl⟩))
    all_goals go_ret2
    all_goals exact ⟨ret_vi (by rw [e1.out]; rfl) e2.out.symm, rfl⟩
  · rw [Bool.not_eq_false] at hm
    have hm' : ¬ mayB s = false := by rw [hm]; decide
    rw [hm] at cm
    by_cases hn : 1 ≤ n ∧ n ≤ 7
    · have hp : ¬ (mayB s = false ∨ ¬ (1 ≤ n ∧ n ≤ 7)) := fun h => h.elim hm' (fun h => h hn)
      by_cases hh : hasB s n = true
      · have e1 := Lib.hid (show addV s n = 0 by unfold addV; rw [if_pos (.inr (.inr hh))])
        have e2 := Lib.hid (show addE s n = 101 by unfold addE; rw [if_neg hp, if_pos hh])
        rw [hh] at ch
        obtain ⟨h1, h2⟩ := hn
        clear hp hm hm' hh
        go_enter Try.func40, Try.ntmps40
        go_wp2_with (first | (go_at_call 51; refine cm.mono ?_; clear cm; rintro e w' ⟨rfl, rfl⟩) | (go_at_call 50; refine ch.mono ?_; clear ch; rintro e w' ⟨rfl, rfl⟩))
        all_goals go_ret2
        all_goals exact ⟨ret_vi (by rw [e1.out]; rfl) e2.out.symm, rfl⟩
      · obtain ⟨j, rfl⟩ : ∃ j : Nat, n = (j : Int) + 1 := ⟨(n - 1).toNat, by omega⟩
        have e1 := Lib.hid (show addV s ((j : Int) + 1) = s ||| 2 ^ j by unfold addV; rw [if_neg (fun h => h.elim hm' (fun h => h.elim (fun h => h hn) hh)), show ((j : Int) + 1 - 1).toNat = j by omega])
        have e2 := Lib.hid (show addE s ((j : Int) + 1) = 0 by unfold addE; rw [if_neg hp, if_neg hh])
        have hb := Lib.hid (go_or s j hs (by omega))
        rw [Bool.eq_false_iff.2 hh] at ch
        have h3 : (j : Int) ≤ 6 := by omega
        clear hp hm hm' hh hn
        go_enter Try.func40, Try.ntmps40
        go_wp2_with (first | (go_at_call 51; refine cm.mono ?_; clear cm; rintro e w' ⟨rfl, rfl⟩) | (go_at_call 50; refine ch.mono ?_; clear ch; rintro e w' ⟨rfl, rfl⟩))
        all_goals go_ret2
        all_goals exact ⟨ret_vi (by rw [e1.out]; exact hb.out) e2.out.symm, rfl⟩
    · have e1 := Lib.hid (show addV s n = 0 by unfold addV; rw [if_pos (.inr (.inl hn))])
      have e2 := Lib.hid (show addE s n = 2 by unfold addE; rw [if_pos (.inr hn)])
      clear hm hm' ch
      rcases Decidable.not_and_iff_not_or_not.1 hn with hn | hn
      all_goals
        go_enter Try.func40, Try.ntmps40
        go_wp2_with (first | (go_at_call 51; refine cm.mono ?_; clear cm; rintro e w' ⟨rfl, rfl⟩) )
        all_goals go_ret2
        all_goals exact ⟨ret_vi (by rw [e1.out]; rfl) e2.out.symm, rfl⟩

set_option maxHeartbeats 1600000 in
theorem radd_c (s : Nat) (hs : s < 256) (n : Int) (w : World) :
    Calls Try.prog 41 #[.int .u8 s, .int .i64 n] w fun e w' => e = .returned (.tuple #[.int .u8 (addV s n : Nat), .int .i64 (addE s n)]) ∧ w = w' := by
  have cm := rmay_c s hs w
  have ch := rhas_c s hs n w
  by_cases hm : mayB s = false
  · have e1 := Lib.hid (show addV s n = 0 by unfold addV; rw [if_pos (.inl hm)])
    have e2 := Lib.hid (show addE s n = 2 by unfold addE; rw [if_pos (.inl hm)])
    rw [hm] at cm
    clear hm
    go_enter Try.func41, Try.ntmps41
    go_wp2_with (first | (go_at_call 17; refine cm.mono ?_; clear cm; rintro e w' ⟨rfl, rfl⟩) | (go_at_call 14; refine ch.mono ?_; clear ch; rintro e w' ⟨rfl, rfl⟩))
    all_goals go_ret2
    all_goals exact ⟨ret_vi (by rw [e1.out]; rfl) e2.out.symm, rfl⟩
  · rw [Bool.not_eq_false] at hm
    have hm' : ¬ mayB s = false := by rw [hm]; decide
    rw [hm] at cm
    by_cases hn : 1 ≤ n ∧ n ≤ 7
    · have hp : ¬ (mayB s = false ∨ ¬ (1 ≤ n ∧ n ≤ 7)) := fun h => h.elim hm' (fun h => h hn)
      by_cases hh : hasB s n = true
      · have e1 := Lib.hid (show addV s n = 0 by unfold addV; rw [if_pos (.inr (.inr hh))])
        have e2 := Lib.hid (show addE s n = 101 by unfold addE; rw [if_neg hp, if_pos hh])
        rw [hh] at ch
        obtain ⟨h1, h2⟩ := hn
        clear hp hm hm' hh
        go_enter Try.func41, Try.ntmps41
        go_wp2_with (first | (go_at_call 17; refine cm.mono ?_; clear cm; rintro e w' ⟨rfl, rfl⟩) | (go_at_call 14; refine ch.mono ?_; clear ch; rintro e w' ⟨rfl, rfl⟩))
        all_goals go_ret2
        all_goals exact ⟨ret_vi (by rw [e1.out]; rfl) e2.out.symm, rfl⟩
      · obtain ⟨j, rfl⟩ : ∃ j : Nat, n = (j : Int) + 1 := ⟨(n - 1).toNat, by omega⟩
        have e1 := Lib.hid (show addV s ((j : Int) + 1) = s ||| 2 ^ j by unfold addV; rw [if_neg (fun h => h.elim hm' (fun h => h.elim (fun h => h hn) hh)), show ((j : Int) + 1 - 1).toNat = j by omega])
        have e2 := Lib.hid (show addE s ((j : Int) + 1) = 0 by unfold addE; rw [if_neg hp, if_neg hh])
        have hb := Lib.hid (go_or s j hs (by omega))
        rw [Bool.eq_false_iff.2 hh] at ch
        have h3 : (j : Int) ≤ 6 := by omega
        clear hp hm hm' hh hn
        go_enter Try.func41, Try.ntmps41
        go_wp2_with (first | (go_at_call 17; refine cm.mono ?_; clear cm; rintro e w' ⟨rfl, rfl⟩) | (go_at_call 14; refine ch.mono ?_; clear ch; rintro e w' ⟨rfl, rfl⟩))
        all_goals go_ret2
        all_goals exact ⟨ret_vi (by rw [e1.out]; exact hb.out) e2.out.symm, rfl⟩
    · have e1 := Lib.hid (show addV s n = 0 by unfold addV; rw [if_pos (.inr (.inl hn))])
      have e2 := Lib.hid (show addE s n = 2 by unfold addE; rw [if_pos (.inr hn)])
      clear hm hm' ch
      rcases Decidable.not_and_iff_not_or_not.1 hn with hn | hn
      all_goals
        go_enter Try.func41, Try.ntmps41
        go_wp2_with (first | (go_at_call 17; refine cm.mono ?_; clear cm; rintro e w' ⟨rfl, rfl⟩) )
        all_goals go_ret2
        all_goals exact ⟨ret_vi (by rw [e1.out]; rfl) e2.out.symm, rfl⟩

set_option maxHeartbeats 1600000 in
theorem rem_c (s : Nat) (hs : s < 256) (n : Int) (w : World) :
    Calls Try.prog 42 #[.int .u8 s, .int .i64 n] w fun e w' => e = .returned (.tuple #[.int .u8 (remV s n : Nat), .int .i64 (remE s n)]) ∧ w = w' := by
  have cm := setMay_c s hs w
  have ch := setHas_c s hs n w
  have cz := setSize_c s hs w
  have bz := cnt_le s 7
  by_cases hm : mayB s = false
  · have e1 := Lib.hid (show remV s n = 0 by unfold remV; rw [if_pos (.inl hm)])
    have e2 := Lib.hid (show remE s n = 2 by unfold remE; rw [if_pos (.inl hm)])
    rw [hm] at cm
    clear hm
    go_enter Try.func42, Try.ntmps42
    go_wp2_with (first | (go_at_call 51; refine cm.mono ?_; clear cm; rintro e w' ⟨rfl, rfl⟩) | (go_at_call 50; refine ch.mono ?_; clear ch; rintro e w' ⟨rfl, rfl⟩) | (go_at_call 52; refine cz.mono ?_; clear cz; rintro e w' ⟨rfl, rfl⟩))
    all_goals go_ret2
    all_goals exact ⟨ret_vi (by rw [e1.out]; rfl) e2.out.symm, rfl⟩
  · rw [Bool.not_eq_false] at hm
    have hm' : ¬ mayB s = false := by rw [hm]; decide
    rw [hm] at cm
    by_cases hn : 1 ≤ n ∧ n ≤ 7
    · have hp : ¬ (mayB s = false ∨ ¬ (1 ≤ n ∧ n ≤ 7)) := fun h => h.elim hm' (fun h => h hn)
      by_cases hh : hasB s n = false
      · have e1 := Lib.hid (show remV s n = 0 by unfold remV; rw [if_pos (.inr (.inr (.inl hh)))])
        have e2 := Lib.hid (show remE s n = 4 by unfold remE; rw [if_neg hp, if_pos hh])
        rw [hh] at ch
        obtain ⟨h1, h2⟩ := hn
        clear hp hm hm' hh
        go_enter Try.func42, Try.ntmps42
        go_wp2_with (first | (go_at_call 51; refine cm.mono ?_; clear cm; rintro e w' ⟨rfl, rfl⟩) | (go_at_call 50; refine ch.mono ?_; clear ch; rintro e w' ⟨rfl, rfl⟩) | (go_at_call 52; refine cz.mono ?_; clear cz; rintro e w' ⟨rfl, rfl⟩))
        all_goals go_ret2
        all_goals exact ⟨ret_vi (by rw [e1.out]; rfl) e2.out.symm, rfl⟩
      · by_cases hz : cnt s 7 = 1
        · have e1 := Lib.hid (show remV s n = 0 by unfold remV; rw [if_pos (.inr (.inr (.inr hz)))])
          have e2 := Lib.hid (show remE s n = 100 by unfold remE; rw [if_neg hp, if_neg hh, if_pos hz])
          rw [Bool.not_eq_false] at hh
          rw [hh] at ch
          rw [hz] at cz
          obtain ⟨h1, h2⟩ := hn
          clear hp hm hm' hh
          go_enter Try.func42, Try.ntmps42
          go_wp2_with (first | (go_at_call 51; refine cm.mono ?_; clear cm; rintro e w' ⟨rfl, rfl⟩) | (go_at_call 50; refine ch.mono ?_; clear ch; rintro e w' ⟨rfl, rfl⟩) | (go_at_call 52; refine cz.mono ?_; clear cz; rintro e w' ⟨rfl, rfl⟩))
          all_goals go_ret2
          all_goals exact ⟨ret_vi (by rw [e1.out]; rfl) e2.out.symm, rfl⟩
        · obtain ⟨j, rfl⟩ : ∃ j : Nat, n = (j : Int) + 1 := ⟨(n - 1).toNat, by omega⟩
          have e1 := Lib.hid (show remV s ((j : Int) + 1) = s &&& (255 - 2 ^ j) by unfold remV; rw [if_neg (fun h => h.elim hm' (fun h => h.elim (fun h => h hn) (fun h => h.elim hh hz))), show ((j : Int) + 1 - 1).toNat = j by omega])
          have e2 := Lib.hid (show remE s ((j : Int) + 1) = 0 by unfold remE; rw [if_neg hp, if_neg hh, if_neg hz])
          have hb := Lib.hid (go_andNot s j hs (by omega))
          rw [Bool.not_eq_false] at hh
          rw [hh] at ch
          have h3 : (j : Int) ≤ 6 := by omega
          have hz' : ¬ ((cnt s 7 : Nat) : Int) = 1 := by omega
          clear hp hm hm' hh hn hz
          go_enter Try.func42, Try.ntmps42
          go_wp2_with (first | (go_at_call 51; refine cm.mono ?_; clear cm; rintro e w' ⟨rfl, rfl⟩) | (go_at_call 50; refine ch.mono ?_; clear ch; rintro e w' ⟨rfl, rfl⟩) | (go_at_call 52; refine cz.mono ?_; clear cz; rintro e w' ⟨rfl, rfl⟩))
          all_goals go_ret2
          all_goals exact ⟨ret_vi (by rw [e1.out]; exact hb.out) e2.out.symm, rfl⟩
    · have e1 := Lib.hid (show remV s n = 0 by unfold remV; rw [if_pos (.inr (.inl hn))])
      have e2 := Lib.hid (show remE s n = 2 by unfold remE; rw [if_pos (.inr hn)])
      clear hm hm' ch
      rcases Decidable.not_and_iff_not_or_not.1 hn with hn | hn
      all_goals
        go_enter Try.func42, Try.ntmps42
        go_wp2_with (first | (go_at_call 51; refine cm.mono ?_; clear cm; rintro e w' ⟨rfl, rfl⟩)  | (go_at_call 52; refine cz.mono ?_; clear cz; rintro e w' ⟨rfl, rfl⟩))
        all_goals go_ret2
        all_goals exact ⟨ret_vi (by rw [e1.out]; rfl) e2.out.symm, rfl⟩

set_option maxHeartbeats 1600000 in
theorem rrem_c (s : Nat) (hs : s < 256) (n : Int) (w : World) :
    Calls Try.prog 43 #[.int .u8 s, .int .i64 n] w fun e w' => e = .returned (.tuple #[.int .u8 (remV s n : Nat), .int .i64 (remE s n)]) ∧ w = w' := by
  have cm := rmay_c s hs w
  have ch := rhas_c s hs n w
  have cz := rsize_c s hs w
  have bz := cnt_le s 7
  by_cases hm : mayB s = false
  · have e1 := Lib.hid (show remV s n = 0 by unfold remV; rw [if_pos (.inl hm)])
    have e2 := Lib.hid (show remE s n = 2 by unfold remE; rw [if_pos (.inl hm)])
    rw [hm] at cm
    clear hm
    go_enter Try.func43, Try.ntmps43
    go_wp2_with (first | (go_at_call 17; refine cm.mono ?_; clear cm; rintro e w' ⟨rfl, rfl⟩) | (go_at_call 14; refine ch.mono ?_; clear ch; rintro e w' ⟨rfl, rfl⟩) | (go_at_call 15; refine cz.mono ?_; clear cz; rintro e w' ⟨rfl, rfl⟩))
    all_goals go_ret2
    all_goals exact ⟨ret_vi (by rw [e1.out]; rfl) e2.out.symm, rfl⟩
  · rw [Bool.not_eq_false] at hm
    have hm' : ¬ mayB s = false := by rw [hm]; decide
    rw [hm] at cm
    by_cases hn : 1 ≤ n ∧ n ≤ 7
    · have hp : ¬ (mayB s = false ∨ ¬ (1 ≤ n ∧ n ≤ 7)) := fun h => h.elim hm' (fun h => h hn)
      by_cases hh : hasB s n = false
      · have e1 := Lib.hid (show remV s n = 0 by unfold remV; rw [if_pos (.inr (.inr (.inl hh)))])
        have e2 := Lib.hid (show remE s n = 4 by unfold remE; rw [if_neg hp, if_pos hh])
        rw [hh] at ch
        obtain ⟨h1, h2⟩ := hn
        clear hp hm hm' hh
        go_enter Try.func43, Try.ntmps43
        go_wp2_with (first | (go_at_call 17; refine cm.mono ?_; clear cm; rintro e w' ⟨rfl, rfl⟩) | (go_at_call 14; refine ch.mono ?_; clear ch; rintro e w' ⟨rfl, rfl⟩) | (go_at_call 15; refine cz.mono ?_; clear cz; rintro e w' ⟨rfl, rfl⟩))
        all_goals go_ret2
        all_goals exact ⟨ret_vi (by rw [e1.out]; rfl) e2.out.symm, rfl⟩
      · by_cases hz : cnt s 7 = 1
        · have e1 := Lib.hid (show remV s n = 0 by unfold remV; rw [if_pos (.inr (.inr (.inr hz)))])
          have e2 := Lib.hid (show remE s n = 100 by unfold remE; rw [if_neg hp, if_neg hh, if_pos hz])
          rw [Bool.not_eq_false] at hh
          rw [hh] at ch
          rw [hz] at cz
          obtain ⟨h1, h2⟩ := hn
          clear hp hm hm' hh
          go_enter Try.func43, Try.ntmps43
          go_wp2_with (first | (go_at_call 17; refine cm.mono ?_; clear cm; rintro e w' ⟨rfl, rfl⟩) | (go_at_call 14; refine ch.mono ?_; clear ch; rintro e w' ⟨rfl, rfl⟩) | (go_at_call 15; refine cz.mono ?_; clear cz; rintro e w' ⟨rfl, rfl⟩))
          all_goals go_ret2
          all_goals exact ⟨ret_vi (by rw [e1.out]; rfl) e2.out.symm, rfl⟩
        · obtain ⟨j, rfl⟩ : ∃ j : Nat, n = (j : Int) + 1 := ⟨(n - 1).toNat, by omega⟩
          have e1 := Lib.hid (show remV s ((j : Int) + 1) = s &&& (255 - 2 ^ j) by unfold remV; rw [if_neg (fun h => h.elim hm' (fun h => h.elim (fun h => h hn) (fun h => h.elim hh hz))), show ((j : Int) + 1 - 1).toNat = j by omega])
          have e2 := Lib.hid (show remE s ((j : Int) + 1) = 0 by unfold remE; rw [if_neg hp, if_neg hh, if_neg hz])
          have hb := Lib.hid (go_andNot s j hs (by omega))
          rw [Bool.not_eq_false] at hh
          rw [hh] at ch
          have h3 : (j : Int) ≤ 6 := by omega
          have hz' : ¬ ((cnt s 7 : Nat) : Int) = 1 := by omega
          clear hp hm hm' hh hn hz
          go_enter Try.func43, Try.ntmps43
          go_wp2_with (first | (go_at_call 17; refine cm.mono ?_; clear cm; rintro e w' ⟨rfl, rfl⟩) | (go_at_call 14; refine ch.mono ?_; clear ch; rintro e w' ⟨rfl, rfl⟩) | (go_at_call 15; refine cz.mono ?_; clear cz; rintro e w' ⟨rfl, rfl⟩))
          all_goals go_ret2
          all_goals exact ⟨ret_vi (by rw [e1.out]; exact hb.out) e2.out.symm, rfl⟩
    · have e1 := Lib.hid (show remV s n = 0 by unfold remV; rw [if_pos (.inr (.inl hn))])
      have e2 := Lib.hid (show remE s n = 2 by unfold remE; rw [if_pos (.inr hn)])
      clear hm hm' ch
      rcases Decidable.not_and_iff_not_or_not.1 hn with hn | hn
      all_goals
        go_enter Try.func43, Try.ntmps43
        go_wp2_with (first | (go_at_call 17; refine cm.mono ?_; clear cm; rintro e w' ⟨rfl, rfl⟩)  | (go_at_call 15; refine cz.mono ?_; clear cz; rintro e w' ⟨rfl, rfl⟩))
        all_goals go_ret2
        all_goals exact ⟨ret_vi (by rw [e1.out]; rfl) e2.out.symm, rfl⟩

end Go.Proofs.Ytgmbhbhjlhpbgaa
