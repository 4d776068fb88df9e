/- The walk of the statement ClockBounds of layer 3 (clock). -/
import Derived.Test.YtlfobigboadmpaaClockLaws
namespace Go.Proofs.Ytlfobigboadmpaa
open Go.ChangeShapes Go.WideShapes Go.ChangeAt Go.RowKit
set_option linter.unusedVariables false
set_option linter.unusedSimpArgs false
attribute [local go_sem] max_fold min_fold
open Ck

/-- The numbers of a row of a slice of steps that lies at b, off. -/
def StepAt (w : World) (b off : Nat) (f : Nat → Nat → Int) (i : Nat) : Prop :=
  w.cell? ⟨b, off + i * 2, none⟩ = some (.int .i64 (f i 0)) ∧ w.cell? ⟨b, off + i * 2 + 1, none⟩ = some (.int .i64 (f i 1)) ∧ (Lit.int .i64 (f i 0)).wf = true ∧ (Lit.int .i64 (f i 1)).wf = true
abbrev XT_LStep := Nat → Nat → Int
def Is_LStep (w : World) (v : Value) (f : XT_LStep) : Prop :=
  ∃ a len cap, v = .slice a len cap ∧ len ≤ cap ∧ cap ≤ 9223372036854775807 ∧ (0 < len → ∃ b off, a = some ⟨b, off, none⟩ ∧ b < w.heap.size ∧ ∀ i, i < len → StepAt w b off f i)

set_option maxRecDepth 100000 in
theorem open_LStep {H : Type} {enc : TypeId × Value → H} {w : World} {r : Reach} {b0 : Nat} {v : Value} {d : DataW H} {p : List MemPlace} (hv : Value.okWide Try.prog w r b0 25 v) (h : DataW.Trod enc Try.prog w 0 (fun _ => true) true 25 v d p) :
    ∃ f, Is_LStep w v f := by
  obtain ⟨a, len, cap, rfl, hl, hm, hrow⟩ := open_rows Try.underlying25 Try.underlying31 (by kernel_rfl) (by kernel_rfl) hv h
  by_cases hp : 0 < len
  · obtain ⟨b, off, V, rfl, hb, hc⟩ := hrow hp (by simp)
    refine ⟨fun i j => intOf (V i j), _, len, cap, rfl, hl, by unfold maxLen at hm; exact hm, fun _ => ⟨b, off, rfl, hb, fun i hi => ?_⟩⟩
    obtain ⟨c0, n0, y0, t0⟩ := hc i (by omega) 0 _ rfl
    obtain ⟨c1, n1, y1, t1⟩ := hc i (by omega) 1 _ rfl
    obtain ⟨e0, f0⟩ := trod_int' Try.underlying3 t0
    obtain ⟨e1, f1⟩ := trod_int' Try.underlying3 t1
    rw [e0] at c0
    rw [e1] at c1
    exact ⟨c0, c1, f0, f1⟩
  · exact ⟨fun _ _ => 0, a, len, cap, rfl, hl, by unfold maxLen at hm; exact hm, fun h => absurd h hp⟩

namespace Ck
/-- A stretch of steps. -/
structure Str (ct cm vt vm r : Int) : Prop where
  t0 : 0 ≤ vt
  t1 : vt ≤ ct
  n0 : (ct - vt) * (1000 - r) ≤ cm - vm
  n1 : cm - vm ≤ (ct - vt) * (1000 + r)
theorem Str.step {ct cm vt vm r ticks : Int} (h : Str ct cm vt vm r) (I : Inv ct cm r) (h0 : 0 ≤ ticks) (h1 : ticks ≤ 1099511627776 - ct) (wish : Int) : Str (ct + ticks) (cm + adv r ticks wish) vt vm r := by
  obtain ⟨t0, t1, n0, n1⟩ := h
  have b := mul_b h0 (show ticks ≤ 1099511627776 by have := I.t0; omega) I.r0 I.r1
  have a := adv_b (wish := wish) b.2.1
  refine ⟨t0, by omega, ?_, ?_⟩
  · rw [show ct + ticks - vt = (ct - vt) + ticks by omega, Int.add_mul]; omega
  · rw [show ct + ticks - vt = (ct - vt) + ticks by omega, Int.add_mul]; omega
theorem Str.new {ct cm r : Int} (h : 0 ≤ ct) : Str ct cm ct cm r := ⟨h, Int.le_refl _, by simp, by simp⟩
theorem sure_le {n r d : Int} (r0 : 0 ≤ r) (r1 : r ≤ 200) (hd : 0 ≤ d) (h : n ≤ d * (1000 + r)) : sure n r ≤ d := by
  unfold sure
  rw [show min (max r 0) 200 = r by omega]
  have hm : min (max n 0) 1125899906842624 ≤ d * (1000 + r) := by
    have := Int.mul_nonneg hd (show 0 ≤ 1000 + r by omega)
    omega
  exact Int.le_of_lt_add_one (Int.ediv_lt_of_lt_mul (by omega) (by rw [Int.add_mul]; omega))
theorem Str.facts {ct cm vt vm r : Int} (h : Str ct cm vt vm r) (I : Inv ct cm r) : 0 ≤ ct - vt ∧ ct - vt ≤ 1099511627776 ∧ 0 ≤ (ct - vt) * (1000 - r) ∧ (ct - vt) * (1000 + r) ≤ 1319413953331200 ∧ (ct - vt) * (1000 - r) ≤ cm - vm ∧ cm - vm ≤ (ct - vt) * (1000 + r) ∧ sure (cm - vm) r ≤ ct - vt := by
  have h1 := h.t0; have h2 := h.t1; have h3 := I.t1; have h4 := I.t0
  have b := mul_b (show 0 ≤ ct - vt by omega) (show ct - vt ≤ 1099511627776 by omega) I.r0 I.r1
  exact ⟨by omega, by omega, b.1, b.2.2, h.n0, h.n1, sure_le I.r0 I.r1 (by omega) h.n1⟩
end Ck

set_option maxRecDepth 100000 in
set_option maxHeartbeats 4000000 in
theorem bounds_good (w0 : World) (r from_ : Int) (b : Nat) (off len cap : Nat) (f : Nat → Nat → Int) (hb : b < w0.heap.size) (hl : len ≤ 200) (hlc : len ≤ cap) (r0 : 0 ≤ r) (r1 : r ≤ 200) (hf : ∀ i, i < len → StepAt w0 b off f i) :
    Calls Try.prog 4 #[.int .i64 r, .slice (some ⟨b, off, none⟩) len cap, .int .i64 from_] w0 fun e w' => e = .returned (.bool true) ∧ Below w0.heap.size w0 w' := by
  have HF := Lib.hid hf
  clear hf
  have hl' : ((len : Int) ≤ 200) := by omega
  go_enter Try.func4, Try.ntmps4
  go_wp2_with fail
  refine (new_ok r _ r0 r1).mono ?_
  rintro e wn ⟨rfl, hA, hBn⟩
  go_wp2
  go_loopw [9, 10, 30] (fun xm xt i wr => ∃ (k : Nat) (vm vt cm ct : Int), k ≤ len ∧ i = .int .i64 k ∧ xm = .int .i64 vm ∧ xt = .int .i64 vt ∧ Ck.At wr w0.heap.size ct cm r ∧ Ck.Inv ct cm r ∧ Ck.Str ct cm vt vm r ∧ Below w0.heap.size w0 wr) (fun _ _ i _ => len - (intOf i).toNat)
  case atStart => exact ⟨0, 0, 0, 0, 0, by omega, rfl, rfl, rfl, hA, inv_zero r0 r1, Str.new (by omega), hBn⟩
  case round =>
    obtain ⟨k, vm, vt, cm, ct, hk, rfl, rfl, rfl, hAt, hI, hS, hB⟩ := hrel
    by_cases hlt : k < len
    · obtain ⟨c0, c1, g0, g1⟩ := HF.out k hlt
      replace c0 := (hB.cell (p := ⟨b, _, none⟩) hb).trans c0
      replace c1 := (hB.cell (p := ⟨b, _, none⟩) hb).trans c1
      clear g0 g1
      have hsz := hB.size
      have hne := hAt.lt
      have hAl := hAt.below ((Below.refl _ wr).alloc (Nat.le_refl _) (.cells #[.int .i64 (f k 0), .int .i64 (f k 1)] 31))
      by_cases ok : 0 ≤ f k 0 ∧ f k 0 ≤ 1099511627776 - ct
      · obtain ⟨ok0, ok1⟩ := ok
        have hI2 := hI.step ok0 ok1 (f k 1)
        have hS2 := hS.step hI ok0 ok1 (f k 1)
        have q1 := hI.t0
        have q2 := hI2.t1
        obtain ⟨q3, q4⟩ := hI2.mb
        have hStep := Lib.hid (step_ok w0.heap.size ct cm r (f k 0) (f k 1) _ hAl hI ok0 ok1)
        by_cases hfr : (k : Int) < from_
        · have hS3 := Str.new (ct := ct + f k 0) (cm := cm + Ck.adv r (f k 0) (f k 1)) (r := r) (by omega)
          have hs0 : sure 0 r ≤ 0 := sure_le r0 r1 (by omega) (by simp)
          clear hS hI hS2
          go_wp2_with fail
          refine hStep.out.mono ?_
          rintro e w1 ⟨rfl, hA1, ho⟩
          have hB1 : Below w0.heap.size w0 w1 := (hB.alloc hsz _).trans (ho.below (Nat.le_refl _) (by simp; omega))
          go_wp2_with (first | (go_at_call 14; refine (now_c _ _ _ _ _ hA1).mono ?_; rintro e w' ⟨rfl, rfl⟩) | (go_at_call 15; refine (true_c _ _ _ _ _ hA1).mono ?_; rintro e w' ⟨rfl, rfl⟩))
          refine (surely_c _ _ _).mono ?_
          rintro e w2 ⟨rfl, hb2⟩
          go_wp2
          go_roundw
          case rel => exact ⟨k + 1, _, _, _, _, by omega, by go_num, rfl, rfl, hA1.below hb2, hI2, hS3, belowNext hB1 hb2 (Nat.le_refl _)⟩
          case measure => simp [intOf]; omega
        · obtain ⟨s1, s2, s3, s4, s5, s6, s7⟩ := hS2.facts hI2
          clear hS hI
          go_wp2_with fail
          refine hStep.out.mono ?_
          rintro e w1 ⟨rfl, hA1, ho⟩
          have hB1 : Below w0.heap.size w0 w1 := (hB.alloc hsz _).trans (ho.below (Nat.le_refl _) (by simp; omega))
          go_wp2_with (first | (go_at_call 14; refine (now_c _ _ _ _ _ hA1).mono ?_; rintro e w' ⟨rfl, rfl⟩) | (go_at_call 15; refine (true_c _ _ _ _ _ hA1).mono ?_; rintro e w' ⟨rfl, rfl⟩))
          refine (surely_c _ _ _).mono ?_
          rintro e w2 ⟨rfl, hb2⟩
          go_wp2
          go_roundw
          case rel => exact ⟨k + 1, _, _, _, _, by omega, by go_num, rfl, rfl, hA1.below hb2, hI2, hS2, belowNext hB1 hb2 (Nat.le_refl _)⟩
          case measure => simp [intOf]; omega
      · have hno : f k 0 < 0 ∨ 1099511627776 - ct < f k 0 := by omega
        have hStep := Lib.hid (step_no w0.heap.size ct cm r (f k 0) (f k 1) _ hAl hI.t0 hI.t1 hno)
        clear hno ok
        go_wp2_with fail
        refine hStep.out.mono ?_
        rintro e w1 ⟨rfl, rfl⟩
        go_wp2
        go_roundw
        case rel => exact ⟨k + 1, _, _, _, _, by omega, by go_num, rfl, rfl, hAl, hI, hS, hB.alloc hsz _⟩
        case measure => simp [intOf]; omega
    · obtain rfl : k = len := by omega
      clear hI hS
      go_wp2_with (first | (go_at_call 11; refine (wakes03_c _).mono ?_; rintro e w3 ⟨rfl, hb3⟩))
      go_ret
      exact ⟨rfl, belowNext hB hb3 (Nat.le_refl _)⟩

theorem bounds_no (w : World) (r from_ : Int) (a : Option Addr) (len cap : Nat) (h : r < 0 ∨ 200 < r) :
    Calls Try.prog 4 #[.int .i64 r, .slice a len cap, .int .i64 from_] w fun e w' => e = .returned (.bool true) ∧ Below w.heap.size w w' := by
  have hn := Lib.hid (new_no r w h)
  clear h
  go_enter Try.func4, Try.ntmps4
  go_wp2_with fail
  refine hn.out.mono ?_
  rintro e wn ⟨rfl, rfl⟩
  go_wp2_with (go_at_call 11; refine (wakes03_c _).mono ?_; rintro e w1 ⟨rfl, hb1⟩)
  go_ret
  exact ⟨rfl, hb1⟩

theorem bounds_long (w : World) (r from_ : Int) (a : Option Addr) (len cap : Nat) (r0 : 0 ≤ r) (r1 : r ≤ 200) (hl : 200 < len) (hl' : len ≤ 9223372036854775807) :
    Calls Try.prog 4 #[.int .i64 r, .slice a len cap, .int .i64 from_] w fun e w' => e = .returned (.bool true) ∧ Below w.heap.size w w' := by
  have hl2 : (200 : Int) < (len : Int) := by omega
  go_enter Try.func4, Try.ntmps4
  go_wp2_with fail
  refine (new_ok r _ r0 r1).mono ?_
  rintro e wn ⟨rfl, hA, hBn⟩
  go_wp2_with (go_at_call 11; refine (wakes03_c _).mono ?_; rintro e w1 ⟨rfl, hb1⟩)
  go_ret
  exact ⟨rfl, belowNext hBn hb1 (Nat.le_refl _)⟩

set_option maxRecDepth 100000 in
theorem bounds_nil (w : World) (r from_ : Int) (a : Option Addr) (cap : Nat) (r0 : 0 ≤ r) (r1 : r ≤ 200) :
    Calls Try.prog 4 #[.int .i64 r, .slice a 0 cap, .int .i64 from_] w fun e w' => e = .returned (.bool true) ∧ Below w.heap.size w w' := by
  go_enter Try.func4, Try.ntmps4
  go_wp2_with fail
  refine (new_ok r _ r0 r1).mono ?_
  rintro e wn ⟨rfl, hA, hBn⟩
  go_wp2
  go_loop [30] (fun i => i = .int .i64 0) (fun i => 0)
  case atStart => rfl
  case round =>
    subst hrel
    go_wp2_with (first | (go_at_call 11; refine (wakes03_c _).mono ?_; rintro e w3 ⟨rfl, hb3⟩))
    go_ret
    exact ⟨rfl, belowNext hBn hb3 (Nat.le_refl _)⟩

theorem clockBounds_walk (w : World) (a0 : Int) (v1 : Value) (a1 : XT_LStep) (a2 : Int) (w0 : (Lit.int .i64 a0).wf = true) (w1 : Is_LStep w v1 a1) (w2 : (Lit.int .i64 a2).wf = true) :
    Calls Try.prog 4 #[.int .i64 a0, v1, .int .i64 a2] w fun e w' => e = .returned (.bool true) ∧ Below w.heap.size w w' := by
  obtain ⟨a, len, cap, rfl, hl, hm, hrow⟩ := w1
  by_cases h : a0 < 0 ∨ 200 < a0
  · exact bounds_no w a0 a2 a len cap h
  · by_cases hn : 200 < len
    · exact bounds_long w a0 a2 a len cap (by omega) (by omega) hn (by omega)
    · by_cases hp : 0 < len
      · obtain ⟨b, off, rfl, hb, hf⟩ := hrow hp
        exact bounds_good w a0 a2 b off len cap a1 hb (by omega) hl (by omega) (by omega) hf
      · obtain rfl : len = 0 := by omega
        exact bounds_nil w a0 a2 a cap (by omega) (by omega)
end Go.Proofs.Ytlfobigboadmpaa
