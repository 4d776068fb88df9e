/- The walk of VoteOnce, whatever comes in. -/
import Derived.Test.YthahlfabcjnkhaaVoteOnce
import Derived.Test.YthahlfabcjnkhaaLMsg
namespace Go.Proofs.Ythahlfabcjnkhaa
open Go.ChangeShapes Go.WideShapes Go.ChangeAt Go.RowKit
set_option linter.unusedVariables false
set_option linter.unusedSimpArgs false
open Rw Vt

set_option maxRecDepth 100000 in
set_option maxHeartbeats 1600000 in
/-- Where nothing is asked, or there is nothing that asks. -/
theorem once_wk (w : World) (t v bt : Int) (r : Rw.R) (self : Int) (a : Option Addr) (n cap : Nat) (hw : RWf r) (hr : RAt w r) (hcap : n ≤ 9223372036854775807) (h : 300 < r.n ∨ 60 < n ∨ Rw.chkB r = false ∨ t < 0 ∨ n = 0) :
    Calls Try.prog 8 #[.agg #[.int .i64 t, .int .i64 v, .int .i64 bt], r.val, .int .i64 self, .slice a n cap] w fun e w' => e = .returned (.bool true) ∧ Below w.heap.size w w' := by
  have HR := Lib.hid hr
  have HW := Lib.hid hw
  clear hr hw
  unfold R.val
  by_cases h1 : 300 < r.n
  · skip
    go_enter Try.func8, Try.ntmps8
    go_wp2_with fail
    refine (great_c r _).mono ?_
    rw [decide_eq_true h1]
    rintro e w1 ⟨rfl, hb1⟩
    have hB1 := belowNext (((Below.refl w.heap.size w).alloc (Nat.le_refl _) _).alloc (by simp) _) hb1 (Nat.le_refl _)
    go_wp2_with fail
    refine (wakes10_c _).mono ?_
    rintro e w9 ⟨rfl, hb9⟩
    go_wp2
    go_ret
    exact ⟨rfl, belowNext hB1 hb9 (Nat.le_refl _)⟩
  by_cases h2 : 60 < n
  · have h2' : (60 : Int) < (n : Int) := by omega
    go_enter Try.func8, Try.ntmps8
    go_wp2_with fail
    refine (great_c r _).mono ?_
    rw [decide_eq_false h1]
    rintro e w1 ⟨rfl, hb1⟩
    have hB1 := belowNext (((Below.refl w.heap.size w).alloc (Nat.le_refl _) _).alloc (by simp) _) hb1 (Nat.le_refl _)
    go_wp2_with fail
    refine (wakes10_c _).mono ?_
    rintro e w9 ⟨rfl, hb9⟩
    go_wp2
    go_ret
    exact ⟨rfl, belowNext hB1 hb9 (Nat.le_refl _)⟩
  have h2' : ¬ (60 : Int) < (n : Int) := by omega
  cases hc : Rw.chkB r with
  | false =>
    have hck := Lib.hid (chkE_no hc)
    clear hc h
    go_enter Try.func8, Try.ntmps8
    go_wp2_with fail
    refine (great_c r _).mono ?_
    rw [decide_eq_false h1]
    rintro e w1 ⟨rfl, hb1⟩
    have hB1 := belowNext (((Below.refl w.heap.size w).alloc (Nat.le_refl _) _).alloc (by simp) _) hb1 (Nat.le_refl _)
    obtain ⟨hc1, hf1⟩ := bcell hb1
    have hs1 : w.heap.size + 2 ≤ w1.heap.size := by have := hb1.size; simp at this; omega
    clear hb1
    go_wp2_with fail
    refine (rcheck_c r _ HW.out (HR.out.below hB1)).mono ?_
    rw [hck.out]
    rintro e w2 ⟨rfl, hb2⟩
    have hB2 := belowNext hB1 hb2 (Nat.le_refl _)
    go_wp2_with fail
    refine (wakes10_c _).mono ?_
    rintro e w9 ⟨rfl, hb9⟩
    go_wp2
    go_ret
    exact ⟨rfl, belowNext hB2 hb9 (Nat.le_refl _)⟩
  | true =>
    have hck := Lib.hid (chkE_ok hc)
    have hcc := Lib.hid hc
    clear hc
    by_cases ht : t < 0
    · clear h
      go_enter Try.func8, Try.ntmps8
      go_wp2_with fail
      refine (great_c r _).mono ?_
      rw [decide_eq_false h1]
      rintro e w1 ⟨rfl, hb1⟩
      have hB1 := belowNext (((Below.refl w.heap.size w).alloc (Nat.le_refl _) _).alloc (by simp) _) hb1 (Nat.le_refl _)
      obtain ⟨hc1, hf1⟩ := bcell hb1
      have hs1 : w.heap.size + 2 ≤ w1.heap.size := by have := hb1.size; simp at this; omega
      clear hb1
      go_wp2_with fail
      refine (rcheck_c r _ HW.out (HR.out.below hB1)).mono ?_
      rw [hck.out]
      rintro e w2 ⟨rfl, hb2⟩
      have hB2 := belowNext hB1 hb2 (Nat.le_refl _)
      have hs2 : w.heap.size + 2 ≤ w2.heap.size := by have := hb2.size; omega
      have x0 : w2.cell? ⟨w.heap.size, 0, none⟩ = some (.int .i64 t) := (hb2.cell (p := ⟨w.heap.size, 0, none⟩) (by simp only; omega)).trans (by go_simp)
      go_wp2_with fail
      refine (wakes10_c _).mono ?_
      rintro e w9 ⟨rfl, hb9⟩
      go_wp2
      go_ret
      exact ⟨rfl, belowNext hB2 hb9 (Nat.le_refl _)⟩
    · obtain rfl : n = 0 := by rcases h with h | h | h | h | h <;> first | omega | exact absurd (h.symm.trans hcc.out) (by decide)
      go_enter Try.func8, Try.ntmps8
      go_wp2_with fail
      refine (great_c r _).mono ?_
      rw [decide_eq_false h1]
      rintro e w1 ⟨rfl, hb1⟩
      have hB1 := belowNext (((Below.refl w.heap.size w).alloc (Nat.le_refl _) _).alloc (by simp) _) hb1 (Nat.le_refl _)
      obtain ⟨hc1, hf1⟩ := bcell hb1
      have hs1 : w.heap.size + 2 ≤ w1.heap.size := by have := hb1.size; simp at this; omega
      clear hb1
      go_wp2_with fail
      refine (rcheck_c r _ HW.out (HR.out.below hB1)).mono ?_
      rw [hck.out]
      rintro e w2 ⟨rfl, hb2⟩
      have hB2 := belowNext hB1 hb2 (Nat.le_refl _)
      have hs2 : w.heap.size + 2 ≤ w2.heap.size := by have := hb2.size; omega
      have x0 : w2.cell? ⟨w.heap.size, 0, none⟩ = some (.int .i64 t) := (hb2.cell (p := ⟨w.heap.size, 0, none⟩) (by simp only; omega)).trans (by go_simp)
      go_wp2_with fail
      go_loopw [9] (fun i wr => i = .int .i64 0 ∧ Below w.heap.size w wr) (fun _ _ => 0)
      case atStart => exact ⟨rfl, hB2⟩
      case round =>
        obtain ⟨rfl, hB⟩ := hrel
        go_wp2_with fail
        refine (wakes10_c _).mono ?_
        rintro e w9 ⟨rfl, hb9⟩
        go_wp2
        go_ret
        exact ⟨rfl, belowNext hB hb9 (Nat.le_refl _)⟩

theorem voteOnce_walk (w : World) (v0 : Value) (a0 : XT_Hard) (v1 : Value) (a1 : XT_Rows) (a2 : Int) (v3 : Value) (a3 : XT_LMessage) (w0 : Is_Hard w v0 a0) (w1 : Is_Rows w v1 a1) (w2 : (Lit.int .i64 a2).wf = true) (w3 : Is_LMessage w v3 a3) :
    Calls Try.prog 8 #[v0, v1, .int .i64 a2, v3] w fun e w' => e = .returned (.bool true) ∧ Below w.heap.size w w' := by
  obtain ⟨rfl, _⟩ := w0
  obtain ⟨rfl, hw, hr⟩ := w1
  obtain ⟨rfl, hl, hm, hrow⟩ := w3
  unfold maxLen at hm
  by_cases h : 300 < a1.n ∨ 60 < a3.n ∨ Rw.chkB a1 = false ∨ a0.t < 0 ∨ a3.n = 0
  · exact once_wk w a0.t a0.v a0.b a1 a2 a3.a a3.n a3.cap hw hr (by omega) h
  · have h1 : ¬ 300 < a1.n := fun k => h (.inl k)
    have h2 : ¬ 60 < a3.n := fun k => h (.inr (.inl k))
    have h3 : Rw.chkB a1 = true := by
      cases hc : Rw.chkB a1 with
      | true => rfl
      | false => exact absurd (.inr (.inr (.inl hc))) h
    have h4 : ¬ a0.t < 0 := fun k => h (.inr (.inr (.inr (.inl k))))
    have h5 : ¬ a3.n = 0 := fun k => h (.inr (.inr (.inr (.inr k))))
    obtain ⟨b, off, ha, hb, hc⟩ := hrow (by omega)
    rw [ha]
    refine once_h w a0.t a0.v a0.b a1 a2 b off a3.n a3.cap a3.ms hw hr h3 (by omega) (by omega) (by omega) hb (fun i hi => ?_) hl
    have q := hc i hi
    exact ⟨q 0 _ rfl, q 1 _ rfl, q 2 _ rfl, q 3 _ rfl, q 4 _ rfl, q 5 _ rfl, q 6 _ rfl, q 7 _ rfl, q 8 _ rfl, q 9 _ rfl, q 10 _ rfl, q 11 _ rfl, q 12 _ rfl, q 13 _ rfl⟩
end Go.Proofs.Ythahlfabcjnkhaa
