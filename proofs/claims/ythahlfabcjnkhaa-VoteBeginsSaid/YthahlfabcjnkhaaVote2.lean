/- The contract of vote's Answer where it answers, and where the ask may not be. -/
import Derived.Test.YthahlfabcjnkhaaVote
namespace Go.Proofs.Ythahlfabcjnkhaa
open Go.ChangeShapes Go.WideShapes Go.ChangeAt Go.RowKit
set_option linter.unusedVariables false
set_option linter.unusedSimpArgs false
open Rw Vt

namespace Vt
def nodeB (n : Int) : Bool := decide (1 ≤ n ∧ n ≤ 7)
def argP (self : Int) (m : Msg) : Prop := m.kind = 1 ∧ nodeB self = true ∧ nodeB m.frm = true ∧ m.frm ≠ self ∧ 1 ≤ m.term
/-- What an ask reads while it is gone through. -/
structure Env (w : World) (H R M : Nat) (ht hv : Int) (r : Rw.R) (m : Msg) : Prop where
  h0 : w.cell? ⟨H, 0, none⟩ = some (.int .i64 ht)
  h1 : w.cell? ⟨H, 1, none⟩ = some (.int .i64 hv)
  r0 : w.cell? ⟨R, 0, none⟩ = some (.int .i64 r.base)
  r1 : w.cell? ⟨R, 1, none⟩ = some (.int .i64 r.term)
  r2 : w.cell? ⟨R, 2, none⟩ = some (.slice r.a r.n r.cap)
  m1 : w.cell? ⟨M, 1, none⟩ = some (.int .i64 m.frm)
  m3 : w.cell? ⟨M, 3, none⟩ = some (.int .i64 m.term)
  m4 : w.cell? ⟨M, 4, none⟩ = some (.int .i64 m.index)
  m5 : w.cell? ⟨M, 5, none⟩ = some (.int .i64 m.last)
  rr : RAt w r
theorem Env.below {w w' : World} {H R M : Nat} {ht hv : Int} {r : Rw.R} {m : Msg} (h : Env w H R M ht hv r m) (k : Below w.heap.size w w') : Env w' H R M ht hv r m :=
  have l : ∀ {a : Addr} {v : Value}, w.cell? a = some v → w'.cell? a = some v := fun {a v} e => (k.cell (p := a) (cell_lt e)).trans e
  ⟨l h.h0, l h.h1, l h.r0, l h.r1, l h.r2, l h.m1, l h.m3, l h.m4, l h.m5, h.rr.below k⟩
def askB (ht hv : Int) (r : Rw.R) (m : Msg) (k : Nat) : Bool := if k = 0 then m.term == ht else if k = 1 then (hv == 0 || hv == m.frm) else Rw.newerB r m.index m.last
def askF (H R M : Nat) (k : Nat) : Value := if k = 0 then .func (.func 90) #[] #[.pointer (some ⟨M, 0, none⟩), .pointer (some ⟨H, 0, none⟩)] else if k = 1 then .func (.func 91) #[] #[.pointer (some ⟨H, 0, none⟩), .pointer (some ⟨M, 0, none⟩)] else .func (.func 92) #[] #[.pointer (some ⟨R, 0, none⟩), .pointer (some ⟨M, 0, none⟩)]
def yesB (ht hv : Int) (r : Rw.R) (m : Msg) : Bool := askB ht hv r m 0 && askB ht hv r m 1 && askB ht hv r m 2
end Vt

theorem node_c (n : Int) (w : World) : Calls Try.prog 89 #[.int .i64 n] w fun e w' => e = .returned (.bool (nodeB n)) ∧ w = w' := by
  have hf : Hid (∀ v : Bool, nodeB n = v → Ending.returned (.bool v) = .returned (.bool (nodeB n))) := fun v h => by rw [h]
  go_enter Try.func89, Try.ntmps89
  go_wp2
  all_goals
    go_ret
    exact ⟨hf.out _ (by unfold nodeB; first | (simp only [decide_eq_true_eq, decide_eq_false_iff_not]; omega) | (rw [Bool.eq_iff_iff]; simp only [Bool.or_eq_true, Bool.and_eq_true, decide_eq_true_eq]; constructor <;> (intro hh; omega))), rfl⟩

theorem ask_c (H R M : Nat) (ht hv : Int) (r : Rw.R) (m : Msg) (w : World) (hw : RWf r) (E : Env w H R M ht hv r m) (k : Nat) (hk : k < 3) :
    Calls Try.prog 95 #[askF H R M k] w fun e w' => e = .returned (.bool (!askB ht hv r m k)) ∧ Below w.heap.size w w' := by
  have E' := Lib.hid E
  obtain ⟨h0, h1, r0, r1, r2, m1, m3, m4, m5, rr⟩ := E
  match k, hk with
  | 0, _ =>
    show Calls Try.prog 95 #[.func (.func 90) #[] #[.pointer (some ⟨M, 0, none⟩), .pointer (some ⟨H, 0, none⟩)]] w fun e w' => e = .returned (.bool (!(m.term == ht))) ∧ Below w.heap.size w w'
    clear rr
    go_enter Try.func95, Try.ntmps95
    go_wp2
    go_ret
    exact ⟨rfl, Below.refl _ _⟩
  | 1, _ =>
    show Calls Try.prog 95 #[.func (.func 91) #[] #[.pointer (some ⟨H, 0, none⟩), .pointer (some ⟨M, 0, none⟩)]] w fun e w' => e = .returned (.bool (!(hv == 0 || hv == m.frm))) ∧ Below w.heap.size w w'
    clear rr
    cases hz : (hv == 0)
    all_goals
      go_enter Try.func95, Try.ntmps95
      go_wp2
      go_ret
      exact ⟨by simp, Below.refl _ _⟩
  | 2, _ =>
    show Calls Try.prog 95 #[.func (.func 92) #[] #[.pointer (some ⟨R, 0, none⟩), .pointer (some ⟨M, 0, none⟩)]] w fun e w' => e = .returned (.bool (!(Rw.newerB r m.index m.last))) ∧ Below w.heap.size w w'
    have hr := Lib.hid rr
    clear rr
    go_enter Try.func95, Try.ntmps95
    go_wp2_with (go_at_call 92; go_in)
    refine (newer_c r m.index m.last _ hw hr.out).mono ?_
    rintro e w1 ⟨rfl, hb1⟩
    go_wp2
    go_ret
    exact ⟨rfl, hb1⟩

def IdxP (y : Bool) (e : Ending) : Prop := ∃ z : Int, e = .returned (.int .i64 z) ∧ (y = true → z = -1) ∧ (y = false → 0 ≤ z ∧ z ≤ 2)

theorem askF_shape (H R M k : Nat) : ∃ f c, askF H R M k = .func f #[] c := by
  unfold askF
  by_cases h : k = 0
  · exact ⟨_, _, if_pos h⟩
  · rw [if_neg h]
    by_cases h1 : k = 1
    · exact ⟨_, _, if_pos h1⟩
    · exact ⟨_, _, if_neg h1⟩

theorem index_c (H R M S : Nat) (ht hv : Int) (r : Rw.R) (m : Msg) (w : World) (hw : RWf r) (E : Env w H R M ht hv r m)
    (hs : ∀ k, k < 3 → w.cell? ⟨S, k, none⟩ = some (askF H R M k)) :
    Calls Try.prog 124 #[.slice (some ⟨S, 0, none⟩) 3 3, .func (.func 95) #[] #[]] w fun e w' => IdxP (yesB ht hv r m) e ∧ Below w.heap.size w w' := by
  have hS : S < w.heap.size := cell_lt (hs 0 (by omega))
  have HS := Lib.hid hs
  clear hs
  go_enter Try.func124, Try.ntmps124
  go_wp2
  go_loopw [8] (fun i wr => ∃ k : Nat, k ≤ 3 ∧ i = .int .i64 k ∧ (∀ j, j < k → askB ht hv r m j = true) ∧ Below w.heap.size w wr) (fun i _ => 3 - (intOf i).toNat)
  case atStart => exact ⟨0, by omega, rfl, fun j hj => absurd hj (by omega), Below.refl _ _⟩
  case round =>
    obtain ⟨k, hk, rfl, hall, hB⟩ := hrel
    have HA := Lib.hid hall
    clear hall
    by_cases hlt : k < 3
    · have x0 := (hB.cell (p := ⟨S, k, none⟩) hS).trans (HS.out k hlt)
      obtain ⟨f, c, hfc⟩ := askF_shape H R M k
      have hE := Lib.hid (E.below hB)
      have hk3 : (k : Int) < 3 := by omega
      have hcall := ask_c H R M ht hv r m wr hw hE.out k hlt
      rw [hfc] at x0 hcall
      have HC := Lib.hid hcall
      clear hcall hfc
      cases hb : askB ht hv r m k with
      | true =>
        have HB := Lib.hid hb
        rw [hb] at HC
        clear hb
        go_wp2_with fail
        refine HC.out.mono ?_
        rintro e w1 ⟨rfl, hb1⟩
        go_wp2
        go_roundw
        case rel =>
          refine ⟨k + 1, by omega, by go_num, fun j hj => ?_, belowNext hB hb1 (Nat.le_refl _)⟩
          rcases Nat.lt_or_eq_of_le (Nat.lt_succ_iff.1 hj) with h | rfl
          · exact HA.out j h
          · exact HB.out
        case measure => simp [intOf]; omega
      | false =>
        have HB := Lib.hid hb
        rw [hb] at HC
        clear hb
        go_wp2_with fail
        refine HC.out.mono ?_
        rintro e w1 ⟨rfl, hb1⟩
        go_wp2
        go_ret
        refine ⟨⟨k, rfl, fun hy => ?_, fun _ => by omega⟩, belowNext hB hb1 (Nat.le_refl _)⟩
        have h1 := HB.out
        unfold yesB at hy
        simp only [Bool.and_eq_true] at hy
        match k, hlt with
        | 0, _ => rw [hy.1.1] at h1; cases h1
        | 1, _ => rw [hy.1.2] at h1; cases h1
        | 2, _ => rw [hy.2] at h1; cases h1
    · obtain rfl : k = 3 := by omega
      go_wp2
      go_ret
      refine ⟨⟨-1, rfl, fun _ => rfl, fun hy => ?_⟩, hB⟩
      have : yesB ht hv r m = true := by
        unfold yesB
        rw [HA.out 0 (by omega), HA.out 1 (by omega), HA.out 2 (by omega)]; rfl
      rw [this] at hy
      cases hy

theorem contains_c (H R M S : Nat) (ht hv : Int) (r : Rw.R) (m : Msg) (w : World) (hw : RWf r) (E : Env w H R M ht hv r m)
    (hs : ∀ k, k < 3 → w.cell? ⟨S, k, none⟩ = some (askF H R M k)) :
    Calls Try.prog 94 #[.slice (some ⟨S, 0, none⟩) 3 3, .func (.func 95) #[] #[]] w fun e w' => e = .returned (.bool (!yesB ht hv r m)) ∧ Below w.heap.size w w' := by
  have HC := Lib.hid (index_c H R M S ht hv r m w hw E hs)
  clear hs E
  cases hy : yesB ht hv r m with
  | true =>
    rw [hy] at HC
    go_enter Try.func94, Try.ntmps94
    go_wp2_with fail
    refine HC.out.mono ?_
    rintro e w1 ⟨⟨z, rfl, hz, _⟩, hb1⟩
    obtain rfl := hz rfl
    go_wp2
    go_ret
    exact ⟨rfl, hb1⟩
  | false =>
    rw [hy] at HC
    go_enter Try.func94, Try.ntmps94
    go_wp2_with fail
    refine HC.out.mono ?_
    rintro e w1 ⟨⟨z, rfl, _, hz⟩, hb1⟩
    obtain ⟨hz1, hz2⟩ := hz rfl
    clear hz
    go_wp2
    go_ret
    exact ⟨by simp [hz1], hb1⟩
end Go.Proofs.Ythahlfabcjnkhaa
