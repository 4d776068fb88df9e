/- The walk of ConfOne. -/
import Derived.Test.YtgmbhbhjlhpbgaaConf9
namespace Go.Proofs.Ytgmbhbhjlhpbgaa
open Go.ChangeShapes Go.WideShapes Go.ChangeAt Go.RowKit
set_option linter.unusedVariables false
set_option linter.unusedSimpArgs false
open B7 Cf Mt

/-- Or there is no majority, or the two have a node in common. -/
def Maj (s x p q : Nat) (b1 b2 : Bool) : Prop := (b1 = true → b2 = true → ¬ bits BinOp.and IntKind.u8 (bits BinOp.and IntKind.u8 (bits BinOp.and IntKind.u8 (p : Int) (q : Int)) (s : Int)) (x : Int) = 0)
theorem maj_of {s x p q : Nat} (hs : s < 256) (hx : x < 256) (hp : p < 256) (hq : q < 256) (h : cnt s 7 < 2 * cnt (s &&& p) 7 → cnt x 7 < 2 * cnt (x &&& q) 7 → p &&& q &&& s &&& x ≠ 0) :
    Maj s x p q (decide (cnt s 7 < 2 * cnt (s &&& p) 7)) (decide (cnt x 7 < 2 * cnt (x &&& q) 7)) := by
  intro h1 h2
  have := h (of_decide_eq_true h1) (of_decide_eq_true h2)
  rw [go_and p q hp hq, go_and (p &&& q) s (and_lt p q hp) hs, go_and (p &&& q &&& s) x (and_lt _ s (and_lt p q hp)) hx]
  omega

theorem idx0 (u : World) : Sem.run Try.prog (Instr.index 50 (.agg #[.bool true, .bool false]) (.int .i64 0)) u = .ok (.bool true) u := by rfl
theorem idx1 (u : World) : Sem.run Try.prog (Instr.index 50 (.agg #[.bool true, .bool false]) (.int .i64 1)) u = .ok (.bool false) u := by rfl
attribute [local go_sem] idx0 idx1

set_option maxRecDepth 100000 in
set_option maxHeartbeats 3200000 in
/-- One round in which the change may be: what is checked holds. -/
theorem one_h (w : World) (s p q : Nat) (n : Int) (hs : s < 256) (hp : p < 256) (hq : q < 256) :
    Calls Try.prog 10 #[.int .u8 s, .int .i64 n, .int .u8 p, .int .u8 q] w fun e w' => e = .returned (.bool true) ∧ Below w.heap.size w w' := by
  have cA : ∀ u, Calls Try.prog 40 #[.int .u8 s, .int .i64 n] u fun e w' => e = .returned (.tuple #[.int .u8 (addV s n : Nat), .int .i64 (addE s n)]) ∧ u = w' := fun u => add_c s hs n u
  have cR : ∀ u, Calls Try.prog 42 #[.int .u8 s, .int .i64 n] u fun e w' => e = .returned (.tuple #[.int .u8 (remV s n : Nat), .int .i64 (remE s n)]) ∧ u = w' := fun u => rem_c s hs n u
  have oA : addE s n = 0 → addV s n < 256 ∧ mayB (addV s n) = true ∧ meetsB s (addV s n) = true ∧ Maj s (addV s n) p q (decide (cnt s 7 < 2 * cnt (s &&& p) 7)) (decide (cnt (addV s n) 7 < 2 * cnt (addV s n &&& q) 7)) := fun h => by
    have M := more_of_add h
    have hx : addV s n < 256 := by have := M.xl; omega
    exact ⟨hx, M.may.2, M.meets.1, maj_of hs hx hp hq (fun h1 h2 => M.common p q h1 h2)⟩
  have oR : remE s n = 0 → remV s n < 256 ∧ mayB (remV s n) = true ∧ meetsB s (remV s n) = true ∧ Maj s (remV s n) p q (decide (cnt s 7 < 2 * cnt (s &&& p) 7)) (decide (cnt (remV s n) 7 < 2 * cnt (remV s n &&& q) 7)) := fun h => by
    have M := more_of_rem h
    have hx : remV s n < 256 := by have := M.yl; omega
    refine ⟨hx, M.may.1, M.meets.2, maj_of hs hx hp hq (fun h1 h2 => ?_)⟩
    have := M.common q p h2 h1
    intro hz
    apply this
    rw [← hz]
    apply Nat.eq_of_testBit_eq
    intro j
    simp only [Nat.testBit_and]
    cases p.testBit j <;> cases q.testBit j <;> cases s.testBit j <;> cases (remV s n).testBit j <;> rfl
  obtain ⟨av, hav⟩ : ∃ x, addV s n = x := ⟨_, rfl⟩
  obtain ⟨ae, hae⟩ : ∃ x, addE s n = x := ⟨_, rfl⟩
  obtain ⟨rv, hrv⟩ : ∃ x, remV s n = x := ⟨_, rfl⟩
  obtain ⟨re, hre⟩ : ∃ x, remE s n = x := ⟨_, rfl⟩
  rw [hav, hae] at cA oA
  rw [hrv, hre] at cR oR
  clear hav hae hrv hre
  go_enter Try.func10, Try.ntmps10
  go_wp2
  go_loopw [14] (fun i wr => ∃ k : Int, (k = 0 ∨ k = 1 ∨ k = 2) ∧ i = .int .i64 k ∧ Below w.heap.size w wr) (fun i _ => 2 - (intOf i).toNat)
  case atStart => exact ⟨0, .inl rfl, rfl, Below.refl _ _⟩
  case round =>
    obtain ⟨k, hk, rfl, hB⟩ := hrel
    rcases hk with rfl | rfl | rfl
    · by_cases he : ae = 0
      · subst he
        obtain ⟨o1, o2, o3, o4⟩ := oA rfl
        have cM : ∀ u, Calls Try.prog 16 #[.int .u8 av] u fun e w' => e = .returned (.bool true) ∧ u = w' := fun u => o2 ▸ may_c av o1 u
        have cT : ∀ u, Calls Try.prog 22 #[.int .u8 s, .int .u8 av] u fun e w' => e = .returned (.bool true) ∧ Below u.heap.size u w' := fun u => o3 ▸ meets_c s av hs o1 u
        have c1 := fun u => most_c s p hs hp u
        have c2 := fun u => most_c av q o1 hq u
        obtain ⟨b1, h1⟩ : ∃ b, decide (cnt s 7 < 2 * cnt (s &&& p) 7) = b := ⟨_, rfl⟩
        obtain ⟨b2, h2⟩ : ∃ b, decide (cnt av 7 < 2 * cnt (av &&& q) 7) = b := ⟨_, rfl⟩
        rw [h1] at c1 o4
        rw [h2] at c2 o4
        clear h1 h2 o2 o3 oA oR
        cases b1
        · clear c2
          go_wp2_with (first | (go_at_call 42; refine (cR _).mono ?_; rintro e w' ⟨rfl, rfl⟩) | (go_at_call 40; refine (cA _).mono ?_; rintro e w' ⟨rfl, rfl⟩) | (go_at_call 16; refine (cM _).mono ?_; clear cM; rintro e w' ⟨rfl, rfl⟩) | (go_at_call 22; refine (cT _).mono ?_; clear cT; rintro e w2 ⟨rfl, hb2⟩) | (go_at_call 20; refine (c1 _).mono ?_; clear c1; rintro e w3 ⟨rfl, hb3⟩))
          go_roundw
          case rel => exact ⟨1, by omega, by simp, (hB.trans (hb2.mono hB.size)).trans (hb3.mono (hB.trans (hb2.mono hB.size)).size)⟩
          case measure => simp [intOf]
        · cases b2
          · go_wp2_with (first | (go_at_call 42; refine (cR _).mono ?_; rintro e w' ⟨rfl, rfl⟩) | (go_at_call 40; refine (cA _).mono ?_; rintro e w' ⟨rfl, rfl⟩) | (go_at_call 16; refine (cM _).mono ?_; clear cM; rintro e w' ⟨rfl, rfl⟩) | (go_at_call 22; refine (cT _).mono ?_; clear cT; rintro e w2 ⟨rfl, hb2⟩) | (go_at_call 20; refine (c1 _).mono ?_; clear c1; rintro e w3 ⟨rfl, hb3⟩) | (go_at_call 20; refine (c2 _).mono ?_; clear c2; rintro e w4 ⟨rfl, hb4⟩))
            go_roundw
            case rel => exact ⟨1, by omega, by simp, ((hB.trans (hb2.mono hB.size)).trans (hb3.mono (hB.trans (hb2.mono hB.size)).size)).trans (hb4.mono ((hB.trans (hb2.mono hB.size)).trans (hb3.mono (hB.trans (hb2.mono hB.size)).size)).size)⟩
            case measure => simp [intOf]
          · have o5 := o4 rfl rfl
            have o6 := bne_iff_ne.2 o5
            clear o4
            go_wp2_with (first | (go_at_call 42; refine (cR _).mono ?_; rintro e w' ⟨rfl, rfl⟩) | (go_at_call 40; refine (cA _).mono ?_; rintro e w' ⟨rfl, rfl⟩) | (go_at_call 16; refine (cM _).mono ?_; clear cM; rintro e w' ⟨rfl, rfl⟩) | (go_at_call 22; refine (cT _).mono ?_; clear cT; rintro e w2 ⟨rfl, hb2⟩) | (go_at_call 20; refine (c1 _).mono ?_; clear c1; rintro e w3 ⟨rfl, hb3⟩) | (go_at_call 20; refine (c2 _).mono ?_; clear c2; rintro e w4 ⟨rfl, hb4⟩))
            go_roundw
            case rel => exact ⟨1, by omega, by simp, ((hB.trans (hb2.mono hB.size)).trans (hb3.mono (hB.trans (hb2.mono hB.size)).size)).trans (hb4.mono ((hB.trans (hb2.mono hB.size)).trans (hb3.mono (hB.trans (hb2.mono hB.size)).size)).size)⟩
            case measure => simp [intOf]
      · clear oA oR
        go_wp2_with (first | (go_at_call 42; refine (cR _).mono ?_; rintro e w' ⟨rfl, rfl⟩) | (go_at_call 40; refine (cA _).mono ?_; rintro e w' ⟨rfl, rfl⟩))
        go_roundw
        case rel => exact ⟨1, by omega, by simp, hB⟩
        case measure => simp [intOf]
    · by_cases he : re = 0
      · subst he
        obtain ⟨o1, o2, o3, o4⟩ := oR rfl
        have cM : ∀ u, Calls Try.prog 16 #[.int .u8 rv] u fun e w' => e = .returned (.bool true) ∧ u = w' := fun u => o2 ▸ may_c rv o1 u
        have cT : ∀ u, Calls Try.prog 22 #[.int .u8 s, .int .u8 rv] u fun e w' => e = .returned (.bool true) ∧ Below u.heap.size u w' := fun u => o3 ▸ meets_c s rv hs o1 u
        have c1 := fun u => most_c s p hs hp u
        have c2 := fun u => most_c rv q o1 hq u
        obtain ⟨b1, h1⟩ : ∃ b, decide (cnt s 7 < 2 * cnt (s &&& p) 7) = b := ⟨_, rfl⟩
        obtain ⟨b2, h2⟩ : ∃ b, decide (cnt rv 7 < 2 * cnt (rv &&& q) 7) = b := ⟨_, rfl⟩
        rw [h1] at c1 o4
        rw [h2] at c2 o4
        clear h1 h2 o2 o3 oA oR
        cases b1
        · clear c2
          go_wp2_with (first | (go_at_call 42; refine (cR _).mono ?_; rintro e w' ⟨rfl, rfl⟩) | (go_at_call 16; refine (cM _).mono ?_; clear cM; rintro e w' ⟨rfl, rfl⟩) | (go_at_call 22; refine (cT _).mono ?_; clear cT; rintro e w2 ⟨rfl, hb2⟩) | (go_at_call 20; refine (c1 _).mono ?_; clear c1; rintro e w3 ⟨rfl, hb3⟩))
          go_roundw
          case rel => exact ⟨2, by omega, by simp, (hB.trans (hb2.mono hB.size)).trans (hb3.mono (hB.trans (hb2.mono hB.size)).size)⟩
          case measure => simp [intOf]
        · cases b2
          · go_wp2_with (first | (go_at_call 42; refine (cR _).mono ?_; rintro e w' ⟨rfl, rfl⟩) | (go_at_call 16; refine (cM _).mono ?_; clear cM; rintro e w' ⟨rfl, rfl⟩) | (go_at_call 22; refine (cT _).mono ?_; clear cT; rintro e w2 ⟨rfl, hb2⟩) | (go_at_call 20; refine (c1 _).mono ?_; clear c1; rintro e w3 ⟨rfl, hb3⟩) | (go_at_call 20; refine (c2 _).mono ?_; clear c2; rintro e w4 ⟨rfl, hb4⟩))
            go_roundw
            case rel => exact ⟨2, by omega, by simp, ((hB.trans (hb2.mono hB.size)).trans (hb3.mono (hB.trans (hb2.mono hB.size)).size)).trans (hb4.mono ((hB.trans (hb2.mono hB.size)).trans (hb3.mono (hB.trans (hb2.mono hB.size)).size)).size)⟩
            case measure => simp [intOf]
          · have o5 := o4 rfl rfl
            have o6 := bne_iff_ne.2 o5
            clear o4
            go_wp2_with (first | (go_at_call 42; refine (cR _).mono ?_; rintro e w' ⟨rfl, rfl⟩) | (go_at_call 16; refine (cM _).mono ?_; clear cM; rintro e w' ⟨rfl, rfl⟩) | (go_at_call 22; refine (cT _).mono ?_; clear cT; rintro e w2 ⟨rfl, hb2⟩) | (go_at_call 20; refine (c1 _).mono ?_; clear c1; rintro e w3 ⟨rfl, hb3⟩) | (go_at_call 20; refine (c2 _).mono ?_; clear c2; rintro e w4 ⟨rfl, hb4⟩))
            go_roundw
            case rel => exact ⟨2, by omega, by simp, ((hB.trans (hb2.mono hB.size)).trans (hb3.mono (hB.trans (hb2.mono hB.size)).size)).trans (hb4.mono ((hB.trans (hb2.mono hB.size)).trans (hb3.mono (hB.trans (hb2.mono hB.size)).size)).size)⟩
            case measure => simp [intOf]
      · clear oA oR
        go_wp2_with (first | (go_at_call 42; refine (cR _).mono ?_; rintro e w' ⟨rfl, rfl⟩))
        go_roundw
        case rel => exact ⟨2, by omega, by simp, hB⟩
        case measure => simp [intOf]
    · go_wp2_with (go_at_call 24; refine (wakes12_c _).mono ?_; rintro e w5 ⟨rfl, hb5⟩)
      go_ret
      exact ⟨rfl, hB.trans (hb5.mono hB.size)⟩

theorem confOne_walk (w : World) (a0 a1 a2 a3 : Int) (w0 : (Lit.int .u8 a0).wf = true) (w1 : (Lit.int .i64 a1).wf = true) (w2 : (Lit.int .u8 a2).wf = true) (w3 : (Lit.int .u8 a3).wf = true) :
    Calls Try.prog 10 #[.int .u8 a0, .int .i64 a1, .int .u8 a2, .int .u8 a3] w fun e w' => e = .returned (.bool true) ∧ Below w.heap.size w w' := by
  obtain ⟨s, hs, rfl⟩ := u8_nat w0
  obtain ⟨p, hp, rfl⟩ := u8_nat w2
  obtain ⟨q, hq, rfl⟩ := u8_nat w3
  exact one_h w s p q a1 hs hp hq
end Go.Proofs.Ytgmbhbhjlhpbgaa
