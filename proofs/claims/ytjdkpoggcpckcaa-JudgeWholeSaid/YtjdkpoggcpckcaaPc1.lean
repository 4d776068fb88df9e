/- Packets with what they hold: Parse whatever it is given; the document's Check. -/
import Derived.Test.YtjdkpoggcpckcaaPk6
import Derived.Test.YtjdkpoggcpckcaaBy
namespace Go.Proofs.Ytjdkpoggcpckcaa
open Go.ChangeShapes Go.WideShapes Go.ChangeAt Go.RowKit
set_option linter.unusedVariables false
set_option linter.unusedSimpArgs false
open Pk BigFrame

set_option maxRecDepth 100000 in
set_option maxHeartbeats 4000000 in
theorem parse_no (b o n cap : Nat) (F : Nat → Nat) (w : World) (h8 : 8 ≤ n) (hcap : n ≤ cap) (hc2 : cap ≤ 9223372036854775807) (hb : BytesAt w b o n F) (hbl : b < w.heap.size) (hck : ckS (tot F n) = 65535) (hno : ¬ (n ≤ 1500 ∧ F 0 = 105 ∧ 1 ≤ F 1 ∧ F 1 ≤ 16 ∧ F 3 = 0 ∧ F 4 * 256 + F 5 = n - 8 ∧ ¬ (F 6 = 255 ∧ F 7 = 255))) :
    Calls Try.prog 13 #[.slice (some ⟨b, o, none⟩) n cap] w fun e w' => e = .returned (.tuple #[.agg #[.int .i64 0, .int .i64 0, .int .i64 0, .slice none 0 0], .int .i64 230]) ∧ Below w.heap.size w w' := by
  have k : ¬ (n : Int) < 8 := by omega
  obtain ⟨c0, f0⟩ := hb 0 (by omega)
  obtain ⟨c1, f1⟩ := hb 1 (by omega)
  obtain ⟨c3, f3⟩ := hb 3 (by omega)
  obtain ⟨c4, f4⟩ := hb 4 (by omega)
  obtain ⟨c5, f5⟩ := hb 5 (by omega)
  rw [Nat.add_zero] at c0
  have k0 : (0 : Int) < (n : Int) := by omega
  have k1 : (1 : Int) < (n : Int) := by omega
  have k3 : (3 : Int) < (n : Int) := by omega
  have k4 : (4 : Int) < (n : Int) := by omega
  have k5 : (5 : Int) < (n : Int) := by omega
  have cc := fun u (hu : BytesAt u b o n F) => check_c b o n cap F u hcap hc2 hu
  have hbA := fun (m : Nat) (ob : Obj) => (show BytesAt ((w.alloc ob).drewN m) b o n F from fun i hi => ⟨((bDrew ((Below.refl w.heap.size w).alloc (Nat.le_refl _) ob) m).cell (p := ⟨b, o + i, none⟩) hbl).trans (hb i hi).1, (hb i hi).2⟩)
  replace hb := Lib.hid hb
  replace hno := Lib.hid hno
  have hckH := Lib.hid hck
  by_cases h1 : 1500 < n
  · have h1' : (1500 : Int) < (n : Int) := by omega
    go_enter Try.func13, Try.ntmps13
    go_wp2_with fail
    refine bodyPost_ret (v := .tuple #[.agg #[.int .i64 0, .int .i64 0, .int .i64 0, .slice none 0 0], .int .i64 230]) (by simp [results, Try.results13, go_sem]) rfl ⟨rfl, (Below.refl _ _).alloc (Nat.le_refl _) _⟩
  have h1' : ¬ (1500 : Int) < (n : Int) := by omega
  by_cases h2 : F 0 ≠ 105
  · have h2' : (((F 0 : Nat) : Int) == 105) = false := by simp; omega
    have h2'' : (((F 0 : Nat) : Int) != 105) = true := by simp; omega
    go_enter Try.func13, Try.ntmps13
    go_wp2_with fail
    refine bodyPost_ret (v := .tuple #[.agg #[.int .i64 0, .int .i64 0, .int .i64 0, .slice none 0 0], .int .i64 230]) (by simp [results, Try.results13, go_sem]) rfl ⟨rfl, (Below.refl _ _).alloc (Nat.le_refl _) _⟩
  replace h2 : F 0 = 105 := by omega
  rw [h2] at c0
  by_cases h3 : F 1 < 1
  · have h3' : ((F 1 : Nat) : Int) < 1 := by omega
    go_enter Try.func13, Try.ntmps13
    go_wp2_with fail
    refine bodyPost_ret (v := .tuple #[.agg #[.int .i64 0, .int .i64 0, .int .i64 0, .slice none 0 0], .int .i64 230]) (by simp [results, Try.results13, go_sem]) rfl ⟨rfl, (Below.refl _ _).alloc (Nat.le_refl _) _⟩
  have h3' : ¬ ((F 1 : Nat) : Int) < 1 := by omega
  by_cases h4 : 16 < F 1
  · have h4' : 16 < ((F 1 : Nat) : Int) := by omega
    go_enter Try.func13, Try.ntmps13
    go_wp2_with fail
    refine bodyPost_ret (v := .tuple #[.agg #[.int .i64 0, .int .i64 0, .int .i64 0, .slice none 0 0], .int .i64 230]) (by simp [results, Try.results13, go_sem]) rfl ⟨rfl, (Below.refl _ _).alloc (Nat.le_refl _) _⟩
  have h4' : ¬ 16 < ((F 1 : Nat) : Int) := by omega
  by_cases h5 : F 3 ≠ 0
  · have h5' : (((F 3 : Nat) : Int) == 0) = false := by simp; omega
    have h5'' : (((F 3 : Nat) : Int) != 0) = true := by simp; omega
    go_enter Try.func13, Try.ntmps13
    go_wp2_with fail
    refine bodyPost_ret (v := .tuple #[.agg #[.int .i64 0, .int .i64 0, .int .i64 0, .slice none 0 0], .int .i64 230]) (by simp [results, Try.results13, go_sem]) rfl ⟨rfl, (Below.refl _ _).alloc (Nat.le_refl _) _⟩
  replace h5 : F 3 = 0 := by omega
  rw [h5] at c3
  have ho := or_i64 (F 4) (F 5) f4 f5
  by_cases h6 : F 4 * 256 + F 5 = n - 8
  · have h6' : (((F 4 : Nat) : Int) * 256 + ((F 5 : Nat) : Int) != (n : Int) - 8) = false := by simp; omega
    go_enter Try.func13, Try.ntmps13
    go_wp2_with fail
    go_big_quiet (fail)
    have hcb := hbA nq (.cells #[.int .i64 0, .int .i64 0, .int .i64 0, .slice none 0 0] 29)
    have z0 : ((w.alloc (.cells #[.int .i64 0, .int .i64 0, .int .i64 0, .slice none 0 0] 29)).drewN nq).cell? ⟨w.heap.size, 0, none⟩ = some (.int .i64 0) := by go_simp
    have z1 : ((w.alloc (.cells #[.int .i64 0, .int .i64 0, .int .i64 0, .slice none 0 0] 29)).drewN nq).cell? ⟨w.heap.size, 1, none⟩ = some (.int .i64 0) := by go_simp
    have z2 : ((w.alloc (.cells #[.int .i64 0, .int .i64 0, .int .i64 0, .slice none 0 0] 29)).drewN nq).cell? ⟨w.heap.size, 2, none⟩ = some (.int .i64 0) := by go_simp
    have z3 : ((w.alloc (.cells #[.int .i64 0, .int .i64 0, .int .i64 0, .slice none 0 0] 29)).drewN nq).cell? ⟨w.heap.size, 3, none⟩ = some (.slice none 0 0) := by go_simp
    have zf : ∀ o, ((w.alloc (.cells #[.int .i64 0, .int .i64 0, .int .i64 0, .slice none 0 0] 29)).drewN nq).frozen? ⟨w.heap.size, o, none⟩ = false := fun o => by go_simp
    have hB := bDrew ((Below.refl w.heap.size w).alloc (Nat.le_refl _) (.cells #[.int .i64 0, .int .i64 0, .int .i64 0, .slice none 0 0] 29)) nq
    generalize (w.alloc (.cells #[.int .i64 0, .int .i64 0, .int .i64 0, .slice none 0 0] 29)).drewN nq = U at z0 z1 z2 z3 zf hB hcb ⊢
    go_wp2_with fail
    refine (cc _ hcb).mono ?_
    rintro e w4 ⟨rfl, m, rfl⟩
    rw [hckH.out]
    have hcb2 : BytesAt (U.drewN m) b o n F := fun i hi => ⟨by simpa using (hcb i hi).1, (hcb i hi).2⟩
    replace z0 : (U.drewN m).cell? ⟨w.heap.size, 0, none⟩ = some (.int .i64 0) := by simpa using z0
    replace z1 : (U.drewN m).cell? ⟨w.heap.size, 1, none⟩ = some (.int .i64 0) := by simpa using z1
    replace z2 : (U.drewN m).cell? ⟨w.heap.size, 2, none⟩ = some (.int .i64 0) := by simpa using z2
    replace z3 : (U.drewN m).cell? ⟨w.heap.size, 3, none⟩ = some (.slice none 0 0) := by simpa using z3
    replace zf : ∀ o, (U.drewN m).frozen? ⟨w.heap.size, o, none⟩ = false := fun o => by simpa using zf o
    replace hB := bDrew hB m
    generalize U.drewN m = U2 at z0 z1 z2 z3 zf hB hcb2 ⊢
    clear hcb hbA cc
    have q6 : F 6 = 255 ∧ F 7 = 255 := Classical.byContradiction fun q => hno.out ⟨by omega, h2, by omega, by omega, h5, h6, q⟩
    have c6 := (hcb2 6 (by omega)).1
    have c7 := (hcb2 7 (by omega)).1
    rw [q6.1] at c6
    rw [q6.2] at c7
    have k6 : (6 : Int) < (n : Int) := by omega
    have k7 : (7 : Int) < (n : Int) := by omega
    clear hcb2 hck q6 hckH hno
    have ha : bits .and .u8 (255 : Int) (255 : Int) = 255 := by kernel_rfl
    go_wp2_with fail
    go_big_quiet (fail)
    replace z0 : (U2.drewN nq).cell? ⟨w.heap.size, 0, none⟩ = some (.int .i64 0) := by simpa using z0
    replace z1 : (U2.drewN nq).cell? ⟨w.heap.size, 1, none⟩ = some (.int .i64 0) := by simpa using z1
    replace z2 : (U2.drewN nq).cell? ⟨w.heap.size, 2, none⟩ = some (.int .i64 0) := by simpa using z2
    replace z3 : (U2.drewN nq).cell? ⟨w.heap.size, 3, none⟩ = some (.slice none 0 0) := by simpa using z3
    replace zf : ∀ o, (U2.drewN nq).frozen? ⟨w.heap.size, o, none⟩ = false := fun o => by simpa using zf o
    replace hB := bDrew hB nq
    generalize U2.drewN nq = U3 at z0 z1 z2 z3 zf hB ⊢
    go_wp2_with fail
    obtain ⟨s0, s1, s2, s3⟩ := set4 (.int .i64 0) (.int .i64 0) (.int .i64 0) (.slice none 0 0) z0 z1 z2 z3
    refine bodyPost_ret (v := .tuple #[.agg #[.int .i64 0, .int .i64 0, .int .i64 0, .slice none 0 0], .int .i64 230]) (by simp [results, Try.results13, go_sem, s0, s1, s2, s3]) rfl ⟨rfl, below4 hB (Nat.le_refl _) _ _ _ _⟩
  · have h6' : (((F 4 : Nat) : Int) * 256 + ((F 5 : Nat) : Int) != (n : Int) - 8) = true := by simp; omega
    go_enter Try.func13, Try.ntmps13
    go_wp2_with fail
    go_big_quiet (fail)
    have z0 : ((w.alloc (.cells #[.int .i64 0, .int .i64 0, .int .i64 0, .slice none 0 0] 29)).drewN nq).cell? ⟨w.heap.size, 0, none⟩ = some (.int .i64 0) := by go_simp
    have z1 : ((w.alloc (.cells #[.int .i64 0, .int .i64 0, .int .i64 0, .slice none 0 0] 29)).drewN nq).cell? ⟨w.heap.size, 1, none⟩ = some (.int .i64 0) := by go_simp
    have z2 : ((w.alloc (.cells #[.int .i64 0, .int .i64 0, .int .i64 0, .slice none 0 0] 29)).drewN nq).cell? ⟨w.heap.size, 2, none⟩ = some (.int .i64 0) := by go_simp
    have z3 : ((w.alloc (.cells #[.int .i64 0, .int .i64 0, .int .i64 0, .slice none 0 0] 29)).drewN nq).cell? ⟨w.heap.size, 3, none⟩ = some (.slice none 0 0) := by go_simp
    have zf : ∀ o, ((w.alloc (.cells #[.int .i64 0, .int .i64 0, .int .i64 0, .slice none 0 0] 29)).drewN nq).frozen? ⟨w.heap.size, o, none⟩ = false := fun o => by go_simp
    have hB := bDrew ((Below.refl w.heap.size w).alloc (Nat.le_refl _) (.cells #[.int .i64 0, .int .i64 0, .int .i64 0, .slice none 0 0] 29)) nq
    generalize (w.alloc (.cells #[.int .i64 0, .int .i64 0, .int .i64 0, .slice none 0 0] 29)).drewN nq = U at z0 z1 z2 z3 zf hB ⊢
    clear hbA
    go_wp2_with fail
    obtain ⟨s0, s1, s2, s3⟩ := set4 (.int .i64 0) (.int .i64 0) (.int .i64 0) (.slice none 0 0) z0 z1 z2 z3
    refine bodyPost_ret (v := .tuple #[.agg #[.int .i64 0, .int .i64 0, .int .i64 0, .slice none 0 0], .int .i64 230]) (by simp [results, Try.results13, go_sem, s0, s1, s2, s3]) rfl ⟨rfl, below4 hB (Nat.le_refl _) _ _ _ _⟩


namespace Pk
theorem ckS_sum (T x : Nat) (hx : x ≤ 65535) : ckS (T + x) = if 65535 < ckS T + x then ckS T + x - 65535 else ckS T + x := by
  unfold ckS
  split <;> split <;> split <;> omega
end Pk

set_option maxRecDepth 100000 in
set_option maxHeartbeats 4000000 in
theorem rcheck_c (b o n cap : Nat) (f : Nat → Nat) (w : World) (hcap : n ≤ cap) (hc2 : n ≤ 1000000) (h : BytesAt w b o n f) :
    Calls Try.prog 17 #[.slice (some ⟨b, o, none⟩) n cap] w fun e w' => e = .returned (.int .u16 ((65535 - ckS (tot f n) : Nat) : Int)) ∧ w' = w := by
  have hnz : (n : Int) ≤ 1000000 := by omega
  have hx16 : IntKind.u16.max = 65535 := rfl
  replace h := Lib.hid h
  go_enter Try.func17, Try.ntmps17
  go_wp2_with fail
  go_loopw [3, 4, 5] (fun s3 s4 _ wr => ∃ (k S : Nat), s3 = .int .i64 (S : Nat) ∧ s4 = .int .i64 ((2 * k : Nat) : Int) ∧ 2 * k ≤ n + 1 ∧ S ≤ 65535 ∧ RowKit.Hid (S = ckS (tot f (min (2 * k) n))) ∧ wr = w) (fun _ s4 _ _ => n + 1 - (intOf s4).toNat)
  case atStart => exact ⟨0, 0, rfl, rfl, by omega, by omega, Lib.hid (by rw [Nat.mul_zero, Nat.zero_min]; rfl), rfl⟩
  case round =>
    obtain ⟨k, S, rfl, rfl, hk, hS2, hS, rfl⟩ := hrel
    obtain ⟨i, hi⟩ : ∃ i, 2 * k = i := ⟨_, rfl⟩
    have hiH := Lib.hid hi
    rw [hi] at hk
    rw [hi]
    have hSz : (S : Int) ≤ 65535 := by omega
    have hiz : (i : Int) ≤ 1000001 := by omega
    by_cases hlt : i < n
    · have hltz : (i : Int) < (n : Int) := by omega
      obtain ⟨c0, f0⟩ := h.out i (by omega)
      by_cases h1 : i + 1 < n
      · have h1z : (i : Int) + 1 < (n : Int) := by omega
        obtain ⟨c1, f1⟩ := h.out (i + 1) (by omega)
        have ht : tot f (i + 2) = tot f i + (256 * f i + f (i + 1)) := by
          have := tot_two f k
          rwa [hi] at this
        have hs := ckS_sum (tot f i) (256 * f i + f (i + 1)) (by omega)
        have hS' := hS.out
        rw [hi, Nat.min_eq_left (by omega)] at hS'
        rw [← ht, ← hS'] at hs
        have ho := or_i64 (f i) (f (i + 1)) f0 f1
        obtain ⟨A, hA⟩ : ∃ A, f i = A := ⟨_, rfl⟩
        obtain ⟨B, hBB⟩ : ∃ B, f (i + 1) = B := ⟨_, rfl⟩
        rw [hA] at c0 f0 ho hs
        rw [hBB] at c1 f1 ho hs
        have hw1 : IntKind.i64.wrap ((A : Int) * 256) = (A : Int) * 256 := IntWalk.i64_in _ (by omega)
        by_cases hg : 65535 < S + (256 * A + B)
        · rw [if_pos hg] at hs
          have hgz : (65535 : Int) < (S : Int) + ((A : Int) * 256 + (B : Int)) := by omega
          replace hs := Lib.hid hs
          clear hS hS' ht hi hA hBB
          go_wp2_with fail
          go_roundw
          case rel => exact ⟨k + 1, S + (256 * A + B) - 65535, by congr 1; omega, by congr 1; have := hiH.out; omega, by have := hiH.out; omega, by omega, Lib.hid (by rw [show 2 * (k + 1) = i + 2 by have := hiH.out; omega, Nat.min_eq_left (by omega)]; exact hs.out.symm), by first | rfl | trivial⟩
          case measure => simp [intOf]; omega
        · rw [if_neg hg] at hs
          have hgz : ¬ (65535 : Int) < (S : Int) + ((A : Int) * 256 + (B : Int)) := by omega
          replace hs := Lib.hid hs
          clear hS hS' ht hi hA hBB
          go_wp2_with fail
          go_roundw
          case rel => exact ⟨k + 1, S + (256 * A + B), by congr 1; omega, by congr 1; have := hiH.out; omega, by have := hiH.out; omega, by omega, Lib.hid (by rw [show 2 * (k + 1) = i + 2 by have := hiH.out; omega, Nat.min_eq_left (by omega)]; exact hs.out.symm), by first | rfl | trivial⟩
          case measure => simp [intOf]; omega
      · have h1z : ¬ (i : Int) + 1 < (n : Int) := by omega
        have ht : tot f (i + 1) = tot f i + 256 * f i := by
          have := tot_one f k
          rwa [hi] at this
        have hs := ckS_sum (tot f i) (256 * f i) (by omega)
        have hS' := hS.out
        rw [hi, Nat.min_eq_left (by omega)] at hS'
        rw [← ht, ← hS'] at hs
        obtain ⟨A, hA⟩ : ∃ A, f i = A := ⟨_, rfl⟩
        rw [hA] at c0 f0 hs
        have hw1 : IntKind.i64.wrap ((A : Int) * 256) = (A : Int) * 256 := IntWalk.i64_in _ (by omega)
        by_cases hg : 65535 < S + 256 * A
        · rw [if_pos hg] at hs
          have hgz : (65535 : Int) < (S : Int) + (A : Int) * 256 := by omega
          replace hs := Lib.hid hs
          clear hS hS' ht hi hA
          go_wp2_with fail
          go_roundw
          case rel => exact ⟨k + 1, S + 256 * A - 65535, by congr 1; omega, by congr 1; have := hiH.out; omega, by have := hiH.out; omega, by omega, Lib.hid (by rw [show 2 * (k + 1) = i + 2 by have := hiH.out; omega, Nat.min_eq_right (by omega), show n = i + 1 by omega]; exact hs.out.symm), by first | rfl | trivial⟩
          case measure => simp [intOf]; omega
        · rw [if_neg hg] at hs
          have hgz : ¬ (65535 : Int) < (S : Int) + (A : Int) * 256 := by omega
          replace hs := Lib.hid hs
          clear hS hS' ht hi hA
          go_wp2_with fail
          go_roundw
          case rel => exact ⟨k + 1, S + 256 * A, by congr 1; omega, by congr 1; have := hiH.out; omega, by have := hiH.out; omega, by omega, Lib.hid (by rw [show 2 * (k + 1) = i + 2 by have := hiH.out; omega, Nat.min_eq_right (by omega), show n = i + 1 by omega]; exact hs.out.symm), by first | rfl | trivial⟩
          case measure => simp [intOf]; omega
    · have hltz : ¬ (i : Int) < (n : Int) := by omega
      have hS' := hS.out
      rw [hi, Nat.min_eq_right (by omega)] at hS'
      have hx := xor_u16 S (by omega)
      replace hS' := Lib.hid hS'
      clear hS hi
      go_wp2_with fail
      go_ret
      exact ⟨by rw [← hS'.out]; rfl, rfl⟩
end Go.Proofs.Ytjdkpoggcpckcaa
