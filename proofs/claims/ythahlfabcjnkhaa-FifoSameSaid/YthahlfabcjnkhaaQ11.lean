/- Are two packets the same? The program's and the document's answer. -/
import Derived.Test.YthahlfabcjnkhaaQ10
namespace Go.Proofs.Ythahlfabcjnkhaa
open Go.ChangeShapes Go.WideShapes Go.ChangeAt Go.RowKit
set_option linter.unusedVariables false
set_option linter.unusedSimpArgs false
open Pk BigFrame Fq

namespace Fq
def sameB (x1 t1 C1 : Int) (n1 : Nat) (f1 : Nat → Nat) (x2 t2 C2 : Int) (n2 : Nat) (f2 : Nat → Nat) : Bool := if x1 = x2 ∧ t1 = t2 ∧ C1 = C2 then eqL n1 f1 n2 f2 else false
theorem ba_ne {a b : ByteArray} (h : ¬ a = b) : ¬ a.toList = b.toList := fun hh => h (by
  rw [ByteArray.toList_eq, ByteArray.toList_eq] at hh
  exact ByteArray.ext (Array.ext' hh))
end Fq

set_option maxRecDepth 100000 in
set_option maxHeartbeats 2000000 in
theorem same24_c (x1 t1 C1 : Int) (a1 : Option Addr) (n1 c1 : Nat) (f1 : Nat → Nat) (x2 t2 C2 : Int) (a2 : Option Addr) (n2 c2 : Nat) (f2 : Nat → Nat) (w : World) (h1 : LoadAt w a1 n1 c1 f1) (h2 : LoadAt w a2 n2 c2 f2) :
    Calls Try.prog 74 #[.agg #[.int .i64 x1, .int .i64 t1, .int .i64 C1, .slice a1 n1 c1], .agg #[.int .i64 x2, .int .i64 t2, .int .i64 C2, .slice a2 n2 c2]] w fun e w' => e = .returned (.bool (sameB x1 t1 C1 n1 f1 x2 t2 C2 n2 f2)) ∧ Below w.heap.size w w' := by
  have hB : Below w.heap.size w ((w.alloc (.cells #[.int .i64 x1, .int .i64 t1, .int .i64 C1, .slice a1 n1 c1] 25)).alloc (.cells #[.int .i64 x2, .int .i64 t2, .int .i64 C2, .slice a2 n2 c2] 25)) := ((Below.refl _ _).alloc (Nat.le_refl _) _).alloc (by simp) _
  have he := Lib.hid (equal_c a1 n1 c1 f1 a2 n2 c2 f2 _ (h1.below hB) (h2.below hB))
  clear h1 h2
  unfold sameB
  by_cases hx : x1 = x2
  · by_cases ht : t1 = t2
    · by_cases hC : C1 = C2
      · subst hx; subst ht; subst hC
        rw [if_pos ⟨rfl, rfl, rfl⟩]
        go_enter Try.func74, Try.ntmps74
        go_wp2_with fail
        refine he.out.mono ?_
        rintro e w2 ⟨rfl, hb2⟩
        go_wp2_with fail
        go_ret
        exact ⟨rfl, bNext hB hb2 (Nat.le_refl _)⟩
      · rw [if_neg (fun hh => hC hh.2.2)]
        subst hx; subst ht
        have hb : (C1 == C2) = false := by simpa using hC
        go_enter Try.func74, Try.ntmps74
        go_wp2_with fail
        go_ret
        exact ⟨rfl, hB⟩
    · rw [if_neg (fun hh => ht hh.2.1)]
      subst hx
      have hb : (t1 == t2) = false := by simpa using ht
      go_enter Try.func74, Try.ntmps74
      go_wp2_with fail
      go_ret
      exact ⟨rfl, hB⟩
  · rw [if_neg (fun hh => hx hh.1)]
    have hb : (x1 == x2) = false := by simpa using hx
    go_enter Try.func74, Try.ntmps74
    go_wp2_with fail
    go_ret
    exact ⟨rfl, hB⟩

set_option maxRecDepth 100000 in
set_option maxHeartbeats 2000000 in
theorem rsame24_c (x1 t1 C1 : Int) (a1 : Option Addr) (n1 c1 : Nat) (f1 : Nat → Nat) (x2 t2 C2 : Int) (a2 : Option Addr) (n2 c2 : Nat) (f2 : Nat → Nat) (w : World) (h1 : LoadAt w a1 n1 c1 f1) (h2 : LoadAt w a2 n2 c2 f2) :
    Calls Try.prog 75 #[.agg #[.int .i64 x1, .int .i64 t1, .int .i64 C1, .slice a1 n1 c1], .agg #[.int .i64 x2, .int .i64 t2, .int .i64 C2, .slice a2 n2 c2]] w fun e w' => e = .returned (.bool (sameB x1 t1 C1 n1 f1 x2 t2 C2 n2 f2)) ∧ Below w.heap.size w w' := by
  have hB : Below w.heap.size w ((w.alloc (.cells #[.int .i64 x1, .int .i64 t1, .int .i64 C1, .slice a1 n1 c1] 25)).alloc (.cells #[.int .i64 x2, .int .i64 t2, .int .i64 C2, .slice a2 n2 c2] 25)) := ((Below.refl _ _).alloc (Nat.le_refl _) _).alloc (by simp) _
  have g1 := conv_arg (cap := c1) (h1.below hB).2.2
  have g2 := conv_arg (cap := c2) (h2.below hB).2.2
  have q1 : ∀ i, i < n1 → f1 i < 256 := fun i hi => by obtain ⟨_, _, _, _, hb⟩ := h1.2.2 (by omega); exact (hb i hi).2
  have q2 : ∀ i, i < n2 → f2 i < 256 := fun i hi => by obtain ⟨_, _, _, _, hb⟩ := h2.2.2 (by omega); exact (hb i hi).2
  have hiff := bstr_eq q1 q2
  clear h1 h2 q1 q2
  obtain ⟨S1, hS1⟩ : ∃ S, bstr n1 f1 = S := ⟨_, rfl⟩
  obtain ⟨S2, hS2⟩ : ∃ S, bstr n2 f2 = S := ⟨_, rfl⟩
  rw [hS1, hS2] at hiff
  rw [hS1] at g1
  rw [hS2] at g2
  unfold sameB
  by_cases hx : x1 = x2
  · by_cases ht : t1 = t2
    · by_cases hC : C1 = C2
      · subst hx; subst ht; subst hC
        rw [if_pos ⟨rfl, rfl, rfl⟩]
        by_cases hS : S1 = S2
        · have hE : eqL n1 f1 n2 f2 = true := by unfold eqL; exact decide_eq_true (hiff.1 hS)
          rw [hE]
          clear hE hiff hS1 hS2
          subst hS
          go_enter Try.func75, Try.ntmps75
          go_wp2_with fail
          exact bodyPost_ret (v := .bool true) (by simp [results, Try.results75, go_sem]) rfl ⟨rfl, hB⟩
        · have hE : eqL n1 f1 n2 f2 = false := by unfold eqL; exact decide_eq_false (fun hh => hS (hiff.2 hh))
          have hSn := ba_ne hS
          have hSb : (S1.toList == S2.toList) = false := by simpa using hSn
          clear hS
          rw [hE]
          clear hE hiff hS1 hS2
          go_enter Try.func75, Try.ntmps75
          go_wp2_with fail
          exact bodyPost_ret (v := .bool false) (by simp [results, Try.results75, go_sem]) rfl ⟨rfl, hB⟩
      · rw [if_neg (fun hh => hC hh.2.2)]
        subst hx; subst ht
        have hb : (C1 == C2) = false := by simpa using hC
        go_enter Try.func75, Try.ntmps75
        go_wp2_with fail
        go_ret
        exact ⟨rfl, hB⟩
    · rw [if_neg (fun hh => ht hh.2.1)]
      subst hx
      have hb : (t1 == t2) = false := by simpa using ht
      go_enter Try.func75, Try.ntmps75
      go_wp2_with fail
      go_ret
      exact ⟨rfl, hB⟩
  · rw [if_neg (fun hh => hx hh.1)]
    have hb : (x1 == x2) = false := by simpa using hx
    go_enter Try.func75, Try.ntmps75
    go_wp2_with fail
    go_ret
    exact ⟨rfl, hB⟩

set_option maxRecDepth 100000 in
set_option maxHeartbeats 2000000 in
theorem nlen_c (w : World) : Calls Try.prog 53 #[.pointer none] w fun e w' => e = .returned (.int .i64 0) ∧ w' = w := by
  go_enter Try.func53, Try.ntmps53
  go_wp2_with fail
  go_ret
  exact ⟨rfl, rfl⟩
set_option maxRecDepth 100000 in
set_option maxHeartbeats 2000000 in
theorem nbytes_c (w : World) : Calls Try.prog 66 #[.pointer none] w fun e w' => e = .returned (.int .i64 0) ∧ w' = w := by
  go_enter Try.func66, Try.ntmps66
  go_wp2_with fail
  go_ret
  exact ⟨rfl, rfl⟩
set_option maxRecDepth 100000 in
set_option maxHeartbeats 2000000 in
theorem ndrops_c (w : World) : Calls Try.prog 68 #[.pointer none] w fun e w' => e = .returned (.int .i64 0) ∧ w' = w := by
  go_enter Try.func68, Try.ntmps68
  go_wp2_with fail
  go_ret
  exact ⟨rfl, rfl⟩
set_option maxRecDepth 100000 in
set_option maxHeartbeats 2000000 in
theorem npush_c (num t C : Int) (a : Option Addr) (m cm : Nat) (w : World) : Calls Try.prog 51 #[.pointer none, .agg #[.int .i64 num, .int .i64 t, .int .i64 C, .slice a m cm]] w fun e w' => e = .returned (.int .i64 1) ∧ Below w.heap.size w w' := by
  go_enter Try.func51, Try.ntmps51
  go_wp2_with fail
  go_ret
  exact ⟨rfl, (Below.refl _ _).alloc (Nat.le_refl _) _⟩
set_option maxRecDepth 100000 in
set_option maxHeartbeats 2000000 in
theorem nhead_c (w : World) : Calls Try.prog 73 #[.pointer none] w fun e w' => e = .returned (.tuple #[.agg #[.int .i64 0, .int .i64 0, .int .i64 0, .slice none 0 0], .bool false]) ∧ Below w.heap.size w w' := by
  have hB := (Below.refl w.heap.size w).alloc (Nat.le_refl _) (.cells #[.int .i64 0, .int .i64 0, .int .i64 0, .slice none 0 0] 25)
  go_enter Try.func73, Try.ntmps73
  go_wp2_with (go_at_call 53; refine (nlen_c _).mono ?_; rintro e w1 ⟨rfl, rfl⟩)
  exact bodyPost_ret (v := .tuple #[.agg #[.int .i64 0, .int .i64 0, .int .i64 0, .slice none 0 0], .bool false]) (by simp [results, Try.results73, go_sem]) rfl ⟨rfl, hB⟩
end Go.Proofs.Ythahlfabcjnkhaa
