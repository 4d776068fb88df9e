/- The walk of the statement ClockOver of layer 3 (clock). -/
import Derived.Test.YtlfobigboadmpaaClockBounds
import Derived.Deep.RegionHeld3
namespace Go.Proofs.Ytlfobigboadmpaa
open Go.ChangeShapes Go.WideShapes Go.ChangeAt Go.RowKit
set_option linter.unusedVariables false
set_option linter.unusedSimpArgs false
attribute [local go_sem] max_fold min_fold
open Ck

namespace Ck
theorem over_law {ma mb ct r T : Int} (ha : Inv ct ma r) (hb : Inv ct mb r) (t0 : 0 ≤ T) (t1 : T ≤ 1099511627776) (h : over T r ≤ ma) : 1000 * T ≤ mb := by
  have r0 := ha.r0; have r1 := ha.r1
  unfold over at h
  rw [show min (max r 0) 200 = r by omega, show min (max T 0) 1099511627776 = T by omega] at h
  have hx := Int.mul_nonneg t0 (show 0 ≤ 1000 * (1000 + r) by omega)
  obtain ⟨x, hxx⟩ : ∃ x, T * (1000 * (1000 + r)) = x := ⟨_, rfl⟩
  rw [hxx] at h hx
  have h1 := Int.emod_add_mul_ediv (x + (1000 - r - 1)) (1000 - r)
  have h2 := Int.emod_lt_of_pos (x + (1000 - r - 1)) (show 0 < 1000 - r by omega)
  have h3 : (1000 - r) * ((x + (1000 - r - 1)) / (1000 - r)) ≤ (1000 - r) * ma := Int.mul_le_mul_of_nonneg_left h (by omega)
  have h4 : x ≤ (1000 - r) * ma := by omega
  have h5 : (1000 - r) * ma ≤ (1000 - r) * (ct * (1000 + r)) := Int.mul_le_mul_of_nonneg_left ha.m1 (by omega)
  have e1 : (1000 - r) * (ct * (1000 + r)) = (ct * (1000 - r)) * (1000 + r) := by
    rw [← Int.mul_assoc, Int.mul_comm (1000 - r) ct]
  have e2 : x = (T * 1000) * (1000 + r) := by rw [← hxx, Int.mul_assoc]
  have h6 : (T * 1000) * (1000 + r) ≤ (ct * (1000 - r)) * (1000 + r) := by omega
  have h7 := Int.le_of_mul_le_mul_right h6 (show 0 < 1000 + r by omega)
  have := hb.m0
  omega
end Ck

set_option maxRecDepth 100000 in
set_option maxHeartbeats 4000000 in
theorem over_good (w0 : World) (r T : Int) (b1 b2 : Nat) (off1 off2 len1 len2 cap1 cap2 : Nat) (f g : Nat → Nat → Int) (hb1 : b1 < w0.heap.size) (hb2 : b2 < w0.heap.size) (hl1 : len1 ≤ 100) (hl2 : len2 ≤ 100) (hlc1 : len1 ≤ cap1) (hlc2 : len2 ≤ cap2)
    (r0 : 0 ≤ r) (r1 : r ≤ 200) (t0 : 0 ≤ T) (t1 : T ≤ 1099511627776) (hf : ∀ i, i < len1 → StepAt w0 b1 off1 f i) (hg : ∀ i, i < len2 → StepAt w0 b2 off2 g i) :
    Calls Try.prog 5 #[.int .i64 r, .int .i64 T, .slice (some ⟨b1, off1, none⟩) len1 cap1, .slice (some ⟨b2, off2, none⟩) len2 cap2] w0 fun e w' => e = .returned (.bool true) ∧ Below w0.heap.size w0 w' := by
  have HF := Lib.hid hf
  have HG := Lib.hid hg
  clear hf hg
  have hl1' : ((len1 : Int) ≤ 100) := by omega
  have hl2' : ((len2 : Int) ≤ 100) := by omega
  go_enter Try.func5, Try.ntmps5
  go_wp2_with fail
  refine (new_ok r _ r0 r1).mono ?_
  rintro e wa ⟨rfl, hA, hBa⟩
  go_wp2_with fail
  refine (new_ok r _ r0 r1).mono ?_
  rintro e wb ⟨rfl, hB0, hBb⟩
  have hA0 := hA.below hBb
  have hBB := belowNext hBa hBb (Nat.le_refl _)
  have hab := hA.lt
  have hsa := hBa.size
  clear hA
  go_wp2
  go_loopw [56] (fun i wr => ∃ (k : Nat) (ma mb ct : Int), (k : Int) ≤ min (len1 : Int) len2 ∧ i = .int .i64 k ∧ Ck.At wr w0.heap.size ct ma r ∧ Ck.At wr wa.heap.size ct mb r ∧ Ck.Inv ct ma r ∧ Ck.Inv ct mb r ∧ Below w0.heap.size w0 wr) (fun i _ => len1 - (intOf i).toNat)
  case atStart => exact ⟨0, 0, 0, 0, by omega, rfl, hA0, hB0, inv_zero r0 r1, inv_zero r0 r1, hBB⟩
  case round =>
    obtain ⟨k, ma, mb, ct, hk, rfl, hAt, hBt, hIa, hIb, hB⟩ := hrel
    by_cases hlt : (k : Int) < min (len1 : Int) len2
    · have hk1 : k < len1 := by omega
      have hk2 : k < len2 := by omega
      have hk1' : (k : Int) < (len1 : Int) := by omega
      have hk2' : (k : Int) < (len2 : Int) := by omega
      obtain ⟨c0, c1, g0, g1⟩ := HF.out k hk1
      obtain ⟨d0, d1, _, _⟩ := HG.out k hk2
      replace c0 := (hB.cell (p := ⟨b1, _, none⟩) hb1).trans c0
      replace c1 := (hB.cell (p := ⟨b1, _, none⟩) hb1).trans c1
      replace d1 := (hB.cell (p := ⟨b2, _, none⟩) hb2).trans d1
      clear g0 g1 d0
      have hsz := hB.size
      have hAd := hAt.below ((Below.refl _ wr).drew)
      have hBd := hBt.below ((Below.refl _ wr).drew)
      by_cases ok : 0 ≤ f k 0 ∧ f k 0 ≤ 1099511627776 - ct
      · obtain ⟨ok0, ok1⟩ := ok
        have HSa := Lib.hid (step_ok w0.heap.size ct ma r (f k 0) (f k 1) _ hAd hIa ok0 ok1)
        have hIa2 := hIa.step ok0 ok1 (f k 1)
        have hIb2 := hIb.step ok0 ok1 (g k 1)
        obtain ⟨m1, m2⟩ := hIb2.mb
        have hno := fun h => over_law hIa2 hIb2 t0 t1 h
        by_cases hov : over T r ≤ ma + Ck.adv r (f k 0) (f k 1)
        · have hfin := hno hov
          clear hno
          go_wp2
          go_region_held3 (fun w' => w'.cell? ⟨b1, off1 + k * 2, none⟩ = some (.int .i64 (f k 0)) ∧ w'.cell? ⟨b1, off1 + k * 2 + 1, none⟩ = some (.int .i64 (f k 1)) ∧ w'.cell? ⟨b2, off2 + k * 2 + 1, none⟩ = some (.int .i64 (g k 1))) (go_keep)
            (first
              | (go_at_call_of 13 (Value.pointer (some ⟨w0.heap.size, 0, none⟩)); refine HSa.out.mono ?_; rintro e w1 ⟨rfl, hA1, ho⟩; have y0 := ho.cell c0 (by simp; omega); have y1 := ho.cell c1 (by simp; omega); have y2 := ho.cell d1 (by simp; omega))
              | (go_at_call_of 13 (Value.pointer (some ⟨wa.heap.size, 0, none⟩)); refine (step_ok wa.heap.size ct mb r (f k 0) (g k 1) _ (hBd.only ho (by omega)) hIb ok0 ok1).mono ?_; rintro e w2 ⟨rfl, hB2, ho2⟩; have z0 := ho2.cell y0 (by simp; omega); have z1 := ho2.cell y1 (by simp; omega); have z2 := ho2.cell y2 (by simp; omega)))
          have hA2 := hA1.only ho2 (by omega)
          go_wp2_with (go_at_call 14; refine (now_c _ _ _ _ _ hA2).mono ?_; rintro e w' ⟨rfl, rfl⟩)
          refine (over_c T r _).mono ?_
          rintro e w3 ⟨rfl, hb3⟩
          have hB3 := hB2.below hb3
          go_wp2_with (go_at_call 14; refine (now_c _ _ _ _ _ hB3).mono ?_; rintro e w' ⟨rfl, rfl⟩)
          go_roundw
          case rel => exact ⟨k + 1, _, _, _, by omega, by go_num, hA2.below hb3, hB3, hIa2, hIb2, belowNext (((hB.drew).trans (ho.below (Nat.le_refl _) (by simp; omega))).trans (ho2.below (by omega) (by have := ho.size; simp at this; omega))) hb3 (Nat.le_refl _)⟩
          case measure => simp [intOf]; omega
        · clear hno
          go_wp2
          go_region_held3 (fun w' => w'.cell? ⟨b1, off1 + k * 2, none⟩ = some (.int .i64 (f k 0)) ∧ w'.cell? ⟨b1, off1 + k * 2 + 1, none⟩ = some (.int .i64 (f k 1)) ∧ w'.cell? ⟨b2, off2 + k * 2 + 1, none⟩ = some (.int .i64 (g k 1))) (go_keep)
            (first
              | (go_at_call_of 13 (Value.pointer (some ⟨w0.heap.size, 0, none⟩)); refine HSa.out.mono ?_; rintro e w1 ⟨rfl, hA1, ho⟩; have y0 := ho.cell c0 (by simp; omega); have y1 := ho.cell c1 (by simp; omega); have y2 := ho.cell d1 (by simp; omega))
              | (go_at_call_of 13 (Value.pointer (some ⟨wa.heap.size, 0, none⟩)); refine (step_ok wa.heap.size ct mb r (f k 0) (g k 1) _ (hBd.only ho (by omega)) hIb ok0 ok1).mono ?_; rintro e w2 ⟨rfl, hB2, ho2⟩; have z0 := ho2.cell y0 (by simp; omega); have z1 := ho2.cell y1 (by simp; omega); have z2 := ho2.cell y2 (by simp; omega)))
          have hA2 := hA1.only ho2 (by omega)
          go_wp2_with (go_at_call 14; refine (now_c _ _ _ _ _ hA2).mono ?_; rintro e w' ⟨rfl, rfl⟩)
          refine (over_c T r _).mono ?_
          rintro e w3 ⟨rfl, hb3⟩
          have hB3 := hB2.below hb3
          go_wp2
          go_roundw
          case rel => exact ⟨k + 1, _, _, _, by omega, by go_num, hA2.below hb3, hB3, hIa2, hIb2, belowNext (((hB.drew).trans (ho.below (Nat.le_refl _) (by simp; omega))).trans (ho2.below (by omega) (by have := ho.size; simp at this; omega))) hb3 (Nat.le_refl _)⟩
          case measure => simp [intOf]; omega
      · have hn := Lib.hid (show f k 0 < 0 ∨ 1099511627776 - ct < f k 0 by omega)
        clear ok
        obtain ⟨m1, m2⟩ := hIb.mb
        have hno := fun h => over_law hIa hIb t0 t1 h
        by_cases hov : over T r ≤ ma
        · have hfin := hno hov
          clear hno
          go_wp2
          go_region_held3 (fun w' => w'.cell? ⟨b1, off1 + k * 2, none⟩ = some (.int .i64 (f k 0)) ∧ w'.cell? ⟨b1, off1 + k * 2 + 1, none⟩ = some (.int .i64 (f k 1)) ∧ w'.cell? ⟨b2, off2 + k * 2 + 1, none⟩ = some (.int .i64 (g k 1))) (go_keep)
            (first
              | (go_at_call_of 13 (Value.pointer (some ⟨w0.heap.size, 0, none⟩)); refine (step_no w0.heap.size ct ma r (f k 0) (f k 1) _ hAd hIa.t0 hIa.t1 hn.out).mono ?_; rintro e w1 ⟨rfl, rfl⟩)
              | (go_at_call_of 13 (Value.pointer (some ⟨wa.heap.size, 0, none⟩)); refine (step_no wa.heap.size ct mb r (f k 0) (g k 1) _ hBd hIb.t0 hIb.t1 hn.out).mono ?_; rintro e w2 ⟨rfl, rfl⟩))
          go_wp2_with (go_at_call 14; refine (now_c _ _ _ _ _ hAd).mono ?_; rintro e w' ⟨rfl, rfl⟩)
          refine (over_c T r _).mono ?_
          rintro e w3 ⟨rfl, hb3⟩
          have hB3 := hBd.below hb3
          go_wp2_with (go_at_call 14; refine (now_c _ _ _ _ _ hB3).mono ?_; rintro e w' ⟨rfl, rfl⟩)
          go_roundw
          case rel => exact ⟨k + 1, _, _, _, by omega, by go_num, hAd.below hb3, hB3, hIa, hIb, belowNext (hB.drew) hb3 (Nat.le_refl _)⟩
          case measure => simp [intOf]; omega
        · clear hno
          go_wp2
          go_region_held3 (fun w' => w'.cell? ⟨b1, off1 + k * 2, none⟩ = some (.int .i64 (f k 0)) ∧ w'.cell? ⟨b1, off1 + k * 2 + 1, none⟩ = some (.int .i64 (f k 1)) ∧ w'.cell? ⟨b2, off2 + k * 2 + 1, none⟩ = some (.int .i64 (g k 1))) (go_keep)
            (first
              | (go_at_call_of 13 (Value.pointer (some ⟨w0.heap.size, 0, none⟩)); refine (step_no w0.heap.size ct ma r (f k 0) (f k 1) _ hAd hIa.t0 hIa.t1 hn.out).mono ?_; rintro e w1 ⟨rfl, rfl⟩)
              | (go_at_call_of 13 (Value.pointer (some ⟨wa.heap.size, 0, none⟩)); refine (step_no wa.heap.size ct mb r (f k 0) (g k 1) _ hBd hIb.t0 hIb.t1 hn.out).mono ?_; rintro e w2 ⟨rfl, rfl⟩))
          go_wp2_with (go_at_call 14; refine (now_c _ _ _ _ _ hAd).mono ?_; rintro e w' ⟨rfl, rfl⟩)
          refine (over_c T r _).mono ?_
          rintro e w3 ⟨rfl, hb3⟩
          have hB3 := hBd.below hb3
          go_wp2
          go_roundw
          case rel => exact ⟨k + 1, _, _, _, by omega, by go_num, hAd.below hb3, hB3, hIa, hIb, belowNext (hB.drew) hb3 (Nat.le_refl _)⟩
          case measure => simp [intOf]; omega
    · have hk3 : (k : Int) = min (len1 : Int) len2 := by omega
      clear hIa hIb hk3
      go_wp2_with (first | (go_at_call 11; refine (wakes03_c _).mono ?_; rintro e w3 ⟨rfl, hb3⟩))
      go_ret
      exact ⟨rfl, belowNext hB hb3 (Nat.le_refl _)⟩

theorem over_no (w : World) (r T : Int) (a1 a2 : Option Addr) (len1 len2 cap1 cap2 : Nat) (h : r < 0 ∨ 200 < r) :
    Calls Try.prog 5 #[.int .i64 r, .int .i64 T, .slice a1 len1 cap1, .slice a2 len2 cap2] w fun e w' => e = .returned (.bool true) ∧ Below w.heap.size w w' := by
  have hn := Lib.hid (new_no r w h)
  clear h
  go_enter Try.func5, Try.ntmps5
  go_wp2_with fail
  refine hn.out.mono ?_
  rintro e wn ⟨rfl, rfl⟩
  go_wp2_with fail
  refine hn.out.mono ?_
  rintro e wn ⟨rfl, rfl⟩
  go_wp2_with (go_at_call 11; refine (wakes03_c _).mono ?_; rintro e w1 ⟨rfl, hb1⟩)
  go_ret
  exact ⟨rfl, hb1⟩

set_option maxRecDepth 100000 in
theorem over_bad (w : World) (r T : Int) (a1 a2 : Option Addr) (len1 len2 cap1 cap2 : Nat) (r0 : 0 ≤ r) (r1 : r ≤ 200) (hl1 : len1 ≤ 9223372036854775807) (hl2 : len2 ≤ 9223372036854775807) (h : 100 < len1 ∨ 100 < len2 ∨ T < 0 ∨ 1099511627776 < T) :
    Calls Try.prog 5 #[.int .i64 r, .int .i64 T, .slice a1 len1 cap1, .slice a2 len2 cap2] w fun e w' => e = .returned (.bool true) ∧ Below w.heap.size w w' := by
  have h1 : (len1 : Int) ≤ 9223372036854775807 := by omega
  have h2 : (len2 : Int) ≤ 9223372036854775807 := by omega
  have HH := Lib.hid h
  clear h
  go_enter Try.func5, Try.ntmps5
  go_wp2_with fail
  refine (new_ok r _ r0 r1).mono ?_
  rintro e wa ⟨rfl, hA, hBa⟩
  go_wp2_with fail
  refine (new_ok r _ r0 r1).mono ?_
  rintro e wb ⟨rfl, hB0, hBb⟩
  go_wp2_with (go_at_call 11; refine (wakes03_c _).mono ?_; rintro e w1 ⟨rfl, hb1⟩)
  all_goals first
    | (go_ret; exact ⟨rfl, belowNext (belowNext hBa hBb (Nat.le_refl _)) hb1 (Nat.le_refl _)⟩)
    | exact (by exfalso; have := HH.out; omega)

set_option maxRecDepth 100000 in
theorem over_nil (w : World) (r T : Int) (a1 a2 : Option Addr) (len1 len2 cap1 cap2 : Nat) (r0 : 0 ≤ r) (r1 : r ≤ 200) (hl1 : len1 ≤ 100) (hl2 : len2 ≤ 100) (t0 : 0 ≤ T) (t1 : T ≤ 1099511627776) (hz : len1 = 0 ∨ len2 = 0) :
    Calls Try.prog 5 #[.int .i64 r, .int .i64 T, .slice a1 len1 cap1, .slice a2 len2 cap2] w fun e w' => e = .returned (.bool true) ∧ Below w.heap.size w w' := by
  have h1 : (len1 : Int) ≤ 100 := by omega
  have h2 : (len2 : Int) ≤ 100 := by omega
  have h3 : min (len1 : Int) len2 ≤ 0 := by omega
  clear hz
  go_enter Try.func5, Try.ntmps5
  go_wp2_with fail
  refine (new_ok r _ r0 r1).mono ?_
  rintro e wa ⟨rfl, hA, hBa⟩
  go_wp2_with fail
  refine (new_ok r _ r0 r1).mono ?_
  rintro e wb ⟨rfl, hB0, hBb⟩
  go_wp2
  go_loop [56] (fun i => i = .int .i64 0) (fun i => 0)
  case atStart => rfl
  case round =>
    subst hrel
    go_wp2_with (first | (go_at_call 11; refine (wakes03_c _).mono ?_; rintro e w3 ⟨rfl, hb3⟩))
    go_ret
    exact ⟨rfl, belowNext (belowNext hBa hBb (Nat.le_refl _)) hb3 (Nat.le_refl _)⟩

theorem clockOver_walk (w : World) (a0 : Int) (a1 : Int) (v2 : Value) (a2 : XT_LStep) (v3 : Value) (a3 : XT_LStep) (w0 : (Lit.int .i64 a0).wf = true) (w1 : (Lit.int .i64 a1).wf = true) (w2 : Is_LStep w v2 a2) (w3 : Is_LStep w v3 a3) :
    Calls Try.prog 5 #[.int .i64 a0, .int .i64 a1, v2, v3] w fun e w' => e = .returned (.bool true) ∧ Below w.heap.size w w' := by
  obtain ⟨x1, len1, cap1, rfl, hl1, hm1, hrow1⟩ := w2
  obtain ⟨x2, len2, cap2, rfl, hl2, hm2, hrow2⟩ := w3
  by_cases h : a0 < 0 ∨ 200 < a0
  · exact over_no w a0 a1 x1 x2 len1 len2 cap1 cap2 h
  · by_cases hn : 100 < len1 ∨ 100 < len2 ∨ a1 < 0 ∨ 1099511627776 < a1
    · exact over_bad w a0 a1 x1 x2 len1 len2 cap1 cap2 (by omega) (by omega) (by omega) (by omega) hn
    · by_cases hp : len1 = 0 ∨ len2 = 0
      · exact over_nil w a0 a1 x1 x2 len1 len2 cap1 cap2 (by omega) (by omega) (by omega) (by omega) (by omega) (by omega) hp
      · obtain ⟨b1, off1, rfl, hb1, hf⟩ := hrow1 (by omega)
        obtain ⟨b2, off2, rfl, hb2, hg⟩ := hrow2 (by omega)
        exact over_good w a0 a1 b1 b2 off1 off2 len1 len2 cap1 cap2 a2 a3 hb1 hb2 (by omega) (by omega) hl1 hl2 (by omega) (by omega) (by omega) (by omega) hf hg
end Go.Proofs.Ytlfobigboadmpaa
