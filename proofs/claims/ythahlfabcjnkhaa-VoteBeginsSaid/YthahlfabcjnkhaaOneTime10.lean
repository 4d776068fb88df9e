/- The walks of VoteOne and VoteTimeout. -/
import Derived.Test.YthahlfabcjnkhaaTime10
import Derived.Below
namespace Go.Proofs.Ythahlfabcjnkhaa
open Go.ChangeShapes Go.WideShapes Go.ChangeAt Go.RowKit
set_option linter.unusedVariables false
set_option linter.unusedSimpArgs false
attribute [local go_sem] max_fold min_fold
open B7

def Wk10 : Prop := ∀ w : World, Calls Try.prog 33 #[] w fun e w' => e = .returned (.bool true) ∧ Below w.heap.size w w'

theorem voteOne_h (hwk : Wk10) (w : World) (s a b : Nat) (hs : s < 256) (ha : a < 256) (hb : b < 256) :
    Calls Try.prog 13 #[.int .u8 s, .int .u8 a, .int .u8 b] w fun e w' => e = .returned (.bool true) ∧ Below w.heap.size w w' := by
  have ca := count_c s a hs ha w
  have cb := count_c s b hs hb w
  have cs := count_c s s hs hs w
  have wk := hwk w
  by_cases g1 : cnt s 7 < 2 * cnt (s &&& a) 7
  · rw [decide_eq_true g1] at ca
    by_cases g2 : cnt s 7 < 2 * cnt (s &&& b) 7
    · rw [decide_eq_true g2] at cb
      have hle := cnt_and_le s a 7
      have g3 : cnt s 7 < 2 * cnt (s &&& s) 7 := by rw [cnt_self]; omega
      rw [decide_eq_true g3] at cs
      have e1 := go_and s a hs ha
      have e2 := go_and (s &&& a) b (and_lt s a hs) hb
      have e3 := go_and (s &&& a &&& b) 127 (and_lt _ b (and_lt s a hs)) (by decide)
      have e4 : ¬ ((s &&& a &&& b &&& 127 : Nat) : Int) = 0 := fun h => by
        have := pig s a b (by omega) 7 (by omega)
        omega
      have e5 : (bits BinOp.and IntKind.u8 ((s &&& a &&& b : Nat) : Int) 127 != 0) = true := bne_iff_ne.2 (fun h => e4 (e3.symm.trans h))
      have e6 : ¬ bits BinOp.and IntKind.u8 ((s &&& a &&& b : Nat) : Int) 127 = 0 := fun h => e4 (e3.symm.trans h)
      clear g1 g2 g3 hle e3 e4
      go_enter Try.func13, Try.ntmps13
      go_wp2_with (first | (go_at_call 48; refine ca.mono ?_; clear ca; rintro e w' ⟨rfl, rfl⟩) | (go_at_call 48; refine cb.mono ?_; clear cb; rintro e w' ⟨rfl, rfl⟩) | (go_at_call 48; refine cs.mono ?_; clear cs; rintro e w' ⟨rfl, rfl⟩) | (go_at_call 33; refine wk.mono ?_; clear wk; rintro e w' ⟨rfl, hbw⟩))
      all_goals go_ret
      all_goals exact ⟨rfl, hbw⟩
    · rw [decide_eq_false g2] at cb
      clear g1 g2
      go_enter Try.func13, Try.ntmps13
      go_wp2_with (first | (go_at_call 48; refine ca.mono ?_; clear ca; rintro e w' ⟨rfl, rfl⟩) | (go_at_call 48; refine cb.mono ?_; clear cb; rintro e w' ⟨rfl, rfl⟩) | (go_at_call 33; refine wk.mono ?_; clear wk; rintro e w' ⟨rfl, hbw⟩))
      go_ret
      exact ⟨rfl, hbw⟩
  · rw [decide_eq_false g1] at ca
    clear g1
    go_enter Try.func13, Try.ntmps13
    go_wp2_with (first | (go_at_call 48; refine ca.mono ?_; clear ca; rintro e w' ⟨rfl, rfl⟩) | (go_at_call 33; refine wk.mono ?_; clear wk; rintro e w' ⟨rfl, hbw⟩))
    go_ret
    exact ⟨rfl, hbw⟩

theorem voteTimeout_h (hwk : Wk10) (w : World) (b d : Int) (hd0 : -9223372036854775808 ≤ d) (hd : d ≤ 9223372036854775807) :
    Calls Try.prog 11 #[.int .i64 b, .int .i64 d] w fun e w' => e = .returned (.bool true) ∧ Below w.heap.size w w' := by
  have wk := hwk w
  obtain ⟨p1, p2⟩ := baseF_pos b
  obtain ⟨p3, p4⟩ := time_bounds b d
  have z2 := time_zero b
  have z3 := time_base b d
  have z4 := time_add b d
  obtain ⟨B, hB⟩ : ∃ B, baseF b = B := ⟨_, rfl⟩
  obtain ⟨n, hn⟩ : ∃ n, timeF b d = n := ⟨_, rfl⟩
  have e1 : min 1099511627776 (max b 1) = B := hB
  rw [hB] at p1 p2 p3 p4 z2 z3 z4
  rw [hn] at z3 z4 p3 p4
  replace hn := Lib.hid hn
  replace z2 := Lib.hid z2
  replace z3 := Lib.hid z3
  replace z4 := Lib.hid z4
  clear hB
  by_cases hg : 4611686018427387904 < d
  all_goals
    go_enter Try.func11, Try.ntmps11
    go_wp2_with (first | (go_at_call 44; refine (timeout_c _ _ _).mono ?_; (first | rw [hn.out] | rw [z2.out] | rw [z3.out] | rw [z4.out]); rintro e w' ⟨rfl, rfl⟩) | (go_at_call 33; refine wk.mono ?_; clear wk; rintro e w' ⟨rfl, hbw⟩))
    go_ret
    exact ⟨rfl, hbw⟩
end Go.Proofs.Ythahlfabcjnkhaa
