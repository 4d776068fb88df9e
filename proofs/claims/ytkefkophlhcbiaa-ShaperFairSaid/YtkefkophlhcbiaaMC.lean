/- Packets with what they hold: Parse whatever it is given; the document's Check. Packets with what they hold: when both answers take bytes for a packet (plain); bytes as strings. Packets with what they hold: the document's Build and Parse. Packets with what they hold: the document's Parse. The record judged as a whole: both Parses over what bytes say. -/
import Derived.Test.YtkefkophlhcbiaaPk6
import Derived.Test.YtkefkophlhcbiaaBy
import Derived.Test.YtkefkophlhcbiaaPk4
namespace Go.Proofs.Ytkefkophlhcbiaa
open Go.ChangeShapes Go.WideShapes Go.ChangeAt Go.RowKit
set_option linter.unusedVariables false
set_option linter.unusedSimpArgs false
open Pk BigFrame

set_option maxRecDepth 100000 in
set_option maxHeartbeats 4000000 in
theorem parse_no (b o n cap : Nat) (F : Nat → Nat) (w : World) (h8 : 8 ≤ n) (hcap : n ≤ cap) (hc2 : cap ≤ 9223372036854775807) (hb : BytesAt w b o n F) (hbl : b < w.heap.size) (hck : ckS (tot F n) = 65535) (hno : ¬ (n ≤ 1500 ∧ F 0 = 105 ∧ 1 ≤ F 1 ∧ F 1 ≤ 16 ∧ F 3 = 0 ∧ F 4 * 256 + F 5 = n - 8 ∧ ¬ (F 6 = 255 ∧ F 7 = 255))) :
    Calls Try.prog 26 #[.slice (some ⟨b, o, none⟩) n cap] w fun e w' => e = .returned (.tuple #[.agg #[.int .i64 0, .int .i64 0, .int .i64 0, .slice none 0 0], .int .i64 230]) ∧ Below w.heap.size w w' := by
  have k : ¬ (n : Int) < 8 := by omega
  obtain ⟨c0, f0⟩ := hb 0 (by omega)
  obtain ⟨c1, f1⟩ := hb 1 (by omega)
  obtain ⟨c3, f3⟩ := hb 3 (by omega)
  obtain ⟨c4, f4⟩ := hb 4 (by omega)
  obtain ⟨c5, f5⟩ := hb 5 (by omega)
  rw [Nat.add_zero] at c0
  have k0 : (0 : Int) < (n : Int) := by omega
  have k1 : (1 : Int) < (n : Int) := by omega
  have k3 : (3 : Int) < (n : Int) := by omega
  have k4 : (4 : Int) < (n : Int) := by omega
  have k5 : (5 : Int) < (n : Int) := by omega
  have cc := fun u (hu : BytesAt u b o n F) => check_c b o n cap F u hcap hc2 hu
  have hbA := fun (m : Nat) (ob : Obj) => (show BytesAt ((w.alloc ob).drewN m) b o n F from fun i hi => ⟨((bDrew ((Below.refl w.heap.size w).alloc (Nat.le_refl _) ob) m).cell (p := ⟨b, o + i, none⟩) hbl).trans (hb i hi).1, (hb i hi).2⟩)
  replace hb := Lib.hid hb
  replace hno := Lib.hid hno
  have hckH := Lib.hid hck
  by_cases h1 : 1500 < n
  · have h1' : (1500 : Int) < (n : Int) := by omega
    go_enter Try.func26, Try.ntmps26
    go_wp2_with fail
    refine bodyPost_ret (v := .tuple #[.agg #[.int .i64 0, .int .i64 0, .int .i64 0, .slice none 0 0], .int .i64 230]) (by simp [results, Try.results26, go_sem]) rfl ⟨rfl, (Below.refl _ _).alloc (Nat.le_refl _) _⟩
  have h1' : ¬ (1500 : Int) < (n : Int) := by omega
  by_cases h2 : F 0 ≠ 105
  · have h2' : (((F 0 : Nat) : Int) == 105) = false := by simp; omega
    have h2'' : (((F 0 : Nat) : Int) != 105) = true := by simp; omega
    go_enter Try.func26, Try.ntmps26
    go_wp2_with fail
    refine bodyPost_ret (v := .tuple #[.agg #[.int .i64 0, .int .i64 0, .int .i64 0, .slice none 0 0], .int .i64 230]) (by simp [results, Try.results26, go_sem]) rfl ⟨rfl, (Below.refl _ _).alloc (Nat.le_refl _) _⟩
  replace h2 : F 0 = 105 := by omega
  rw [h2] at c0
  by_cases h3 : F 1 < 1
  · have h3' : ((F 1 : Nat) : Int) < 1 := by omega
    go_enter Try.func26, Try.ntmps26
    go_wp2_with fail
    refine bodyPost_ret (v := .tuple #[.agg #[.int .i64 0, .int .i64 0, .int .i64 0, .slice none 0 0], .int .i64 230]) (by simp [results, Try.results26, go_sem]) rfl ⟨rfl, (Below.refl _ _).alloc (Nat.le_refl _) _⟩
  have h3' : ¬ ((F 1 : Nat) : Int) < 1 := by omega
  by_cases h4 : 16 < F 1
  · have h4' : 16 < ((F 1 : Nat) : Int) := by omega
    go_enter Try.func26, Try.ntmps26
    go_wp2_with fail
    refine bodyPost_ret (v := .tuple #[.agg #[.int .i64 0, .int .i64 0, .int .i64 0, .slice none 0 0], .int .i64 230]) (by simp [results, Try.results26, go_sem]) rfl ⟨rfl, (Below.refl _ _).alloc (Nat.le_refl _) _⟩
  have h4' : ¬ 16 < ((F 1 : Nat) : Int) := by omega
  by_cases h5 : F 3 ≠ 0
  · have h5' : (((F 3 : Nat) : Int) == 0) = false := by simp; omega
    have h5'' : (((F 3 : Nat) : Int) != 0) = true := by simp; omega
    go_enter Try.func26, Try.ntmps26
    go_wp2_with fail
    refine bodyPost_ret (v := .tuple #[.agg #[.int .i64 0, .int .i64 0, .int .i64 0, .slice none 0 0], .int .i64 230]) (by simp [results, Try.results26, go_sem]) rfl ⟨rfl, (Below.refl _ _).alloc (Nat.le_refl _) _⟩
  replace h5 : F 3 = 0 := by omega
  rw [h5] at c3
  have ho := or_i64 (F 4) (F 5) f4 f5
  by_cases h6 : F 4 * 256 + F 5 = n - 8
  · have h6' : (((F 4 : Nat) : Int) * 256 + ((F 5 : Nat) : Int) != (n : Int) - 8) = false := by simp; omega
    go_enter Try.func26, Try.ntmps26
    go_wp2_with fail
    go_big_quiet (fail)
    have hcb := hbA nq (.cells #[.int .i64 0, .int .i64 0, .int .i64 0, .slice none 0 0] 38)
    have z0 : ((w.alloc (.cells #[.int .i64 0, .int .i64 0, .int .i64 0, .slice none 0 0] 38)).drewN nq).cell? ⟨w.heap.size, 0, none⟩ = some (.int .i64 0) := by go_simp
    have z1 : ((w.alloc (.cells #[.int .i64 0, .int .i64 0, .int .i64 0, .slice none 0 0] 38)).drewN nq).cell? ⟨w.heap.size, 1, none⟩ = some (.int .i64 0) := by go_simp
    have z2 : ((w.alloc (.cells #[.int .i64 0, .int .i64 0, .int .i64 0, .slice none 0 0] 38)).drewN nq).cell? ⟨w.heap.size, 2, none⟩ = some (.int .i64 0) := by go_simp
    have z3 : ((w.alloc (.cells #[.int .i64 0, .int .i64 0, .int .i64 0, .slice none 0 0] 38)).drewN nq).cell? ⟨w.heap.size, 3, none⟩ = some (.slice none 0 0) := by go_simp
    have zf : ∀ o, ((w.alloc (.cells #[.int .i64 0, .int .i64 0, .int .i64 0, .slice none 0 0] 38)).drewN nq).frozen? ⟨w.heap.size, o, none⟩ = false := fun o => by go_simp
    have hB := bDrew ((Below.refl w.heap.size w).alloc (Nat.le_refl _) (.cells #[.int .i64 0, .int .i64 0, .int .i64 0, .slice none 0 0] 38)) nq
    generalize (w.alloc (.cells #[.int .i64 0, .int .i64 0, .int .i64 0, .slice none 0 0] 38)).drewN nq = U at z0 z1 z2 z3 zf hB hcb ⊢
    go_wp2_with fail
    refine (cc _ hcb).mono ?_
    rintro e w4 ⟨rfl, m, rfl⟩
    rw [hckH.out]
    have hcb2 : BytesAt (U.drewN m) b o n F := fun i hi => ⟨by simpa using (hcb i hi).1, (hcb i hi).2⟩
    replace z0 : (U.drewN m).cell? ⟨w.heap.size, 0, none⟩ = some (.int .i64 0) := by simpa using z0
    replace z1 : (U.drewN m).cell? ⟨w.heap.size, 1, none⟩ = some (.int .i64 0) := by simpa using z1
    replace z2 : (U.drewN m).cell? ⟨w.heap.size, 2, none⟩ = some (.int .i64 0) := by simpa using z2
    replace z3 : (U.drewN m).cell? ⟨w.heap.size, 3, none⟩ = some (.slice none 0 0) := by simpa using z3
    replace zf : ∀ o, (U.drewN m).frozen? ⟨w.heap.size, o, none⟩ = false := fun o => by simpa using zf o
    replace hB := bDrew hB m
    generalize U.drewN m = U2 at z0 z1 z2 z3 zf hB hcb2 ⊢
    clear hcb hbA cc
    have q6 : F 6 = 255 ∧ F 7 = 255 := Classical.byContradiction fun q => hno.out ⟨by omega, h2, by omega, by omega, h5, h6, q⟩
    have c6 := (hcb2 6 (by omega)).1
    have c7 := (hcb2 7 (by omega)).1
    rw [q6.1] at c6
    rw [q6.2] at c7
    have k6 : (6 : Int) < (n : Int) := by omega
    have k7 : (7 : Int) < (n : Int) := by omega
    clear hcb2 hck q6 hckH hno
    have ha : bits .and .u8 (255 : Int) (255 : Int) = 255 := by kernel_rfl
    go_wp2_with fail
    go_big_quiet (fail)
    replace z0 : (U2.drewN nq).cell? ⟨w.heap.size, 0, none⟩ = some (.int .i64 0) := by simpa using z0
    replace z1 : (U2.drewN nq).cell? ⟨w.heap.size, 1, none⟩ = some (.int .i64 0) := by simpa using z1
    replace z2 : (U2.drewN nq).cell? ⟨w.heap.size, 2, none⟩ = some (.int .i64 0) := by simpa using z2
    replace z3 : (U2.drewN nq).cell? ⟨w.heap.size, 3, none⟩ = some (.slice none 0 0) := by simpa using z3
    replace zf : ∀ o, (U2.drewN nq).frozen? ⟨w.heap.size, o, none⟩ = false := fun o => by simpa using zf o
    replace hB := bDrew hB nq
    generalize U2.drewN nq = U3 at z0 z1 z2 z3 zf hB ⊢
    go_wp2_with fail
    obtain ⟨s0, s1, s2, s3⟩ := set4 (.int .i64 0) (.int .i64 0) (.int .i64 0) (.slice none 0 0) z0 z1 z2 z3
    refine bodyPost_ret (v := .tuple #[.agg #[.int .i64 0, .int .i64 0, .int .i64 0, .slice none 0 0], .int .i64 230]) (by simp [results, Try.results26, go_sem, s0, s1, s2, s3]) rfl ⟨rfl, below4 hB (Nat.le_refl _) _ _ _ _⟩
  · have h6' : (((F 4 : Nat) : Int) * 256 + ((F 5 : Nat) : Int) != (n : Int) - 8) = true := by simp; omega
    go_enter Try.func26, Try.ntmps26
    go_wp2_with fail
    go_big_quiet (fail)
    have z0 : ((w.alloc (.cells #[.int .i64 0, .int .i64 0, .int .i64 0, .slice none 0 0] 38)).drewN nq).cell? ⟨w.heap.size, 0, none⟩ = some (.int .i64 0) := by go_simp
    have z1 : ((w.alloc (.cells #[.int .i64 0, .int .i64 0, .int .i64 0, .slice none 0 0] 38)).drewN nq).cell? ⟨w.heap.size, 1, none⟩ = some (.int .i64 0) := by go_simp
    have z2 : ((w.alloc (.cells #[.int .i64 0, .int .i64 0, .int .i64 0, .slice none 0 0] 38)).drewN nq).cell? ⟨w.heap.size, 2, none⟩ = some (.int .i64 0) := by go_simp
    have z3 : ((w.alloc (.cells #[.int .i64 0, .int .i64 0, .int .i64 0, .slice none 0 0] 38)).drewN nq).cell? ⟨w.heap.size, 3, none⟩ = some (.slice none 0 0) := by go_simp
    have zf : ∀ o, ((w.alloc (.cells #[.int .i64 0, .int .i64 0, .int .i64 0, .slice none 0 0] 38)).drewN nq).frozen? ⟨w.heap.size, o, none⟩ = false := fun o => by go_simp
    have hB := bDrew ((Below.refl w.heap.size w).alloc (Nat.le_refl _) (.cells #[.int .i64 0, .int .i64 0, .int .i64 0, .slice none 0 0] 38)) nq
    generalize (w.alloc (.cells #[.int .i64 0, .int .i64 0, .int .i64 0, .slice none 0 0] 38)).drewN nq = U at z0 z1 z2 z3 zf hB ⊢
    clear hbA
    go_wp2_with fail
    obtain ⟨s0, s1, s2, s3⟩ := set4 (.int .i64 0) (.int .i64 0) (.int .i64 0) (.slice none 0 0) z0 z1 z2 z3
    refine bodyPost_ret (v := .tuple #[.agg #[.int .i64 0, .int .i64 0, .int .i64 0, .slice none 0 0], .int .i64 230]) (by simp [results, Try.results26, go_sem, s0, s1, s2, s3]) rfl ⟨rfl, below4 hB (Nat.le_refl _) _ _ _ _⟩


namespace Pk
theorem ckS_sum (T x : Nat) (hx : x ≤ 65535) : ckS (T + x) = if 65535 < ckS T + x then ckS T + x - 65535 else ckS T + x := by
  unfold ckS
  split <;> split <;> split <;> omega
end Pk

set_option maxRecDepth 100000 in
set_option maxHeartbeats 4000000 in
theorem rcheck_c (b o n cap : Nat) (f : Nat → Nat) (w : World) (hcap : n ≤ cap) (hc2 : n ≤ 1000000) (h : BytesAt w b o n f) :
    Calls Try.prog 40 #[.slice (some ⟨b, o, none⟩) n cap] w fun e w' => e = .returned (.int .u16 ((65535 - ckS (tot f n) : Nat) : Int)) ∧ w' = w := by
  have hnz : (n : Int) ≤ 1000000 := by omega
  have hx16 : IntKind.u16.max = 65535 := rfl
  replace h := Lib.hid h
  go_enter Try.func40, Try.ntmps40
  go_wp2_with fail
  go_loopw [3, 4, 5] (fun s3 s4 _ wr => ∃ (k S : Nat), s3 = .int .i64 (S : Nat) ∧ s4 = .int .i64 ((2 * k : Nat) : Int) ∧ 2 * k ≤ n + 1 ∧ S ≤ 65535 ∧ RowKit.Hid (S = ckS (tot f (min (2 * k) n))) ∧ wr = w) (fun _ s4 _ _ => n + 1 - (intOf s4).toNat)
  case atStart => exact ⟨0, 0, rfl, rfl, by omega, by omega, Lib.hid (by rw [Nat.mul_zero, Nat.zero_min]; rfl), rfl⟩
  case round =>
    obtain ⟨k, S, rfl, rfl, hk, hS2, hS, rfl⟩ := hrel
    obtain ⟨i, hi⟩ : ∃ i, 2 * k = i := ⟨_, rfl⟩
    have hiH := Lib.hid hi
    rw [hi] at hk
    rw [hi]
    have hSz : (S : Int) ≤ 65535 := by omega
    have hiz : (i : Int) ≤ 1000001 := by omega
    by_cases hlt : i < n
    · have hltz : (i : Int) < (n : Int) := by omega
      obtain ⟨c0, f0⟩ := h.out i (by omega)
      by_cases h1 : i + 1 < n
      · have h1z : (i : Int) + 1 < (n : Int) := by omega
        obtain ⟨c1, f1⟩ := h.out (i + 1) (by omega)
        have ht : tot f (i + 2) = tot f i + (256 * f i + f (i + 1)) := by
          have := tot_two f k
          rwa [hi] at this
        have hs := ckS_sum (tot f i) (256 * f i + f (i + 1)) (by omega)
        have hS' := hS.out
        rw [hi, Nat.min_eq_left (by omega)] at hS'
        rw [← ht, ← hS'] at hs
        have ho := or_i64 (f i) (f (i + 1)) f0 f1
        obtain ⟨A, hA⟩ : ∃ A, f i = A := ⟨_, rfl⟩
        obtain ⟨B, hBB⟩ : ∃ B, f (i + 1) = B := ⟨_, rfl⟩
        rw [hA] at c0 f0 ho hs
        rw [hBB] at c1 f1 ho hs
        have hw1 : IntKind.i64.wrap ((A : Int) * 256) = (A : Int) * 256 := IntWalk.i64_in _ (by omega)
        by_cases hg : 65535 < S + (256 * A + B)
        · rw [if_pos hg] at hs
          have hgz : (65535 : Int) < (S : Int) + ((A : Int) * 256 + (B : Int)) := by omega
          replace hs := Lib.hid hs
          clear hS hS' ht hi hA hBB
          go_wp2_with fail
          go_roundw
          case rel => exact ⟨k + 1, S + (256 * A + B) - 65535, by congr 1; omega, by congr 1; have := hiH.out; omega, by have := hiH.out; omega, by omega, Lib.hid (by rw [show 2 * (k + 1) = i + 2 by have := hiH.out; omega, Nat.min_eq_left (by omega)]; exact hs.out.symm), by first | rfl | trivial⟩
          case measure => simp [intOf]; omega
        · rw [if_neg hg] at hs
          have hgz : ¬ (65535 : Int) < (S : Int) + ((A : Int) * 256 + (B : Int)) := by omega
          replace hs := Lib.hid hs
          clear hS hS' ht hi hA hBB
          go_wp2_with fail
          go_roundw
          case rel => exact ⟨k + 1, S + (256 * A + B), by congr 1; omega, by congr 1; have := hiH.out; omega, by have := hiH.out; omega, by omega, Lib.hid (by rw [show 2 * (k + 1) = i + 2 by have := hiH.out; omega, Nat.min_eq_left (by omega)]; exact hs.out.symm), by first | rfl | trivial⟩
          case measure => simp [intOf]; omega
      · have h1z : ¬ (i : Int) + 1 < (n : Int) := by omega
        have ht : tot f (i + 1) = tot f i + 256 * f i := by
          have := tot_one f k
          rwa [hi] at this
        have hs := ckS_sum (tot f i) (256 * f i) (by omega)
        have hS' := hS.out
        rw [hi, Nat.min_eq_left (by omega)] at hS'
        rw [← ht, ← hS'] at hs
        obtain ⟨A, hA⟩ : ∃ A, f i = A := ⟨_, rfl⟩
        rw [hA] at c0 f0 hs
        have hw1 : IntKind.i64.wrap ((A : Int) * 256) = (A : Int) * 256 := IntWalk.i64_in _ (by omega)
        by_cases hg : 65535 < S + 256 * A
        · rw [if_pos hg] at hs
          have hgz : (65535 : Int) < (S : Int) + (A : Int) * 256 := by omega
          replace hs := Lib.hid hs
          clear hS hS' ht hi hA
          go_wp2_with fail
          go_roundw
          case rel => exact ⟨k + 1, S + 256 * A - 65535, by congr 1; omega, by congr 1; have := hiH.out; omega, by have := hiH.out; omega, by omega, Lib.hid (by rw [show 2 * (k + 1) = i + 2 by have := hiH.out; omega, Nat.min_eq_right (by omega), show n = i + 1 by omega]; exact hs.out.symm), by first | rfl | trivial⟩
          case measure => simp [intOf]; omega
        · rw [if_neg hg] at hs
          have hgz : ¬ (65535 : Int) < (S : Int) + (A : Int) * 256 := by omega
          replace hs := Lib.hid hs
          clear hS hS' ht hi hA
          go_wp2_with fail
          go_roundw
          case rel => exact ⟨k + 1, S + 256 * A, by congr 1; omega, by congr 1; have := hiH.out; omega, by have := hiH.out; omega, by omega, Lib.hid (by rw [show 2 * (k + 1) = i + 2 by have := hiH.out; omega, Nat.min_eq_right (by omega), show n = i + 1 by omega]; exact hs.out.symm), by first | rfl | trivial⟩
          case measure => simp [intOf]; omega
    · have hltz : ¬ (i : Int) < (n : Int) := by omega
      have hS' := hS.out
      rw [hi, Nat.min_eq_right (by omega)] at hS'
      have hx := xor_u16 S (by omega)
      replace hS' := Lib.hid hS'
      clear hS hi
      go_wp2_with fail
      go_ret
      exact ⟨by rw [← hS'.out]; rfl, rfl⟩
end Go.Proofs.Ytkefkophlhcbiaa
namespace Go.Proofs.Ytkefkophlhcbiaa
open Go.ChangeShapes Go.WideShapes Go.ChangeAt Go.RowKit
set_option linter.unusedVariables false
set_option linter.unusedSimpArgs false
open Pk BigFrame

namespace Pk
def FpK (t C n c : Nat) (f : Nat → Nat) (i : Nat) : Nat := (pkL t C n c f).getD i 0
theorem FpK_tail {t C n c : Nat} {f : Nat → Nat} {i : Nat} (h : i < n) : FpK t C n c f (8 + i) = f i := by
  unfold FpK pkL
  rw [List.getD_eq_getElem?_getD, List.getElem?_append_right (by simp)]
  simp [h]
theorem tot8K (f : Nat → Nat) : tot f 8 = 256 * f 0 + f 1 + 256 * f 2 + f 3 + 256 * f 4 + f 5 + 256 * f 6 + f 7 := by
  simp [tot]
theorem tot_checkK (t C n c : Nat) (f : Nat → Nat) (m : Nat) (hm : m ≤ n) : tot (FpK t C n c f) (8 + m) = tot (FpK t C n 0 f) (8 + m) + c := by
  induction m with
  | zero =>
    rw [Nat.add_zero, tot8K, tot8K]
    simp [FpK, pkL]
    omega
  | succ m ih =>
    rw [← Nat.add_assoc, tot, tot, ih (by omega), FpK_tail (by omega), FpK_tail (by omega)]
    omega
theorem tot_headK (t C n : Nat) (f : Nat → Nat) (m : Nat) : 26880 ≤ tot (FpK t C n 0 f) (8 + m) := by
  induction m with
  | zero => rw [Nat.add_zero, tot8K]; simp [FpK, pkL]; omega
  | succ m ih => rw [← Nat.add_assoc, tot]; omega
theorem ck_selfK (T : Nat) (h : 0 < T) : ckS (T + (65535 - ckS T)) = 65535 ∧ 65535 - ckS T ≠ 65535 := by
  have h1 : ckS T = (T - 1) % 65535 + 1 := by unfold ckS; rw [if_neg (by omega)]
  rw [h1]
  constructor
  · unfold ckS
    rw [if_neg (by omega)]
    omega
  · omega
theorem ck_wholeK (t C n : Nat) (f : Nat → Nat) : ckS (tot (FpK t C n (pkC t C n f) f) (8 + n)) = 65535 ∧ pkC t C n f ≠ 65535 := by
  have h1 := tot_checkK t C n (pkC t C n f) f n (Nat.le_refl _)
  have h2 := tot_headK t C n f n
  have h3 : pkC t C n f = 65535 - ckS (tot (FpK t C n 0 f) (8 + n)) := rfl
  rw [h1, h3]
  exact ck_selfK _ (by omega)
/-- The bytes that are a packet. -/
def goodF (n : Nat) (F : Nat → Nat) : Prop := 8 ≤ n ∧ n ≤ 1500 ∧ F 0 = 105 ∧ 1 ≤ F 1 ∧ F 1 ≤ 16 ∧ F 3 = 0 ∧ F 4 * 256 + F 5 = n - 8 ∧ ckS (tot F n) = 65535 ∧ ¬ (F 6 = 255 ∧ F 7 = 255)
theorem tot_congr {F G : Nat → Nat} : ∀ n, (∀ i, i < n → F i = G i) → tot F n = tot G n
  | 0, _ => rfl
  | 1, h => by simp [tot, h 0 (by omega)]
  | n + 2, h => by
    have h1 := tot_congr (n + 1) (fun i hi => h i (by omega))
    have h2 := h (n + 1) (by omega)
    simp only [tot] at h1 ⊢
    rw [h1, h2]
theorem ck_only {T c : Nat} (hT : 0 < T) (hc : c < 65535) (h : ckS (T + c) = 65535) : c = 65535 - ckS T := by
  unfold ckS at h ⊢
  split at h <;> split <;> omega
theorem pk_at (t C n c : Nat) (f : Nat → Nat) : FpK t C n c f 0 = 105 ∧ FpK t C n c f 1 = t ∧ FpK t C n c f 2 = C ∧ FpK t C n c f 3 = 0 ∧ FpK t C n c f 4 = n / 256 ∧ FpK t C n c f 5 = n % 256 ∧ FpK t C n c f 6 = c / 256 ∧ FpK t C n c f 7 = c % 256 := by
  simp [FpK, pkL]
theorem pk_ext {t C n c : Nat} {f F : Nat → Nat} (h0 : F 0 = 105) (h1 : F 1 = t) (h2 : F 2 = C) (h3 : F 3 = 0) (h4 : F 4 = n / 256) (h5 : F 5 = n % 256) (h6 : F 6 = c / 256) (h7 : F 7 = c % 256) (hf : ∀ i, i < n → f i = F (8 + i)) : ∀ i, i < 8 + n → F i = FpK t C n c f i := fun i hi => by
  have p := pk_at t C n c f
  by_cases h : i < 8
  · have : i = 0 ∨ i = 1 ∨ i = 2 ∨ i = 3 ∨ i = 4 ∨ i = 5 ∨ i = 6 ∨ i = 7 := by omega
    rcases this with rfl | rfl | rfl | rfl | rfl | rfl | rfl | rfl <;> omega
  · obtain ⟨j, rfl⟩ : ∃ j, i = 8 + j := ⟨i - 8, by omega⟩
    rw [FpK_tail (by omega)]
    exact (hf j (by omega)).symm
/-- What the document's Parse builds anew is what it was given, if and only if that is good. -/
theorem good_iff {n : Nat} {F : Nat → Nat} (hF : ∀ i, i < n → F i < 256) (h8 : 8 ≤ n) (h15 : n ≤ 1500) (ht1 : 1 ≤ F 1) (ht2 : F 1 ≤ 16) :
    (∀ i, i < n → FpK (F 1) (F 2) (n - 8) (pkC (F 1) (F 2) (n - 8) (fun i => F (8 + i))) (fun i => F (8 + i)) i = F i) ↔ goodF n F := by
  obtain ⟨m, rfl⟩ : ∃ m, n = 8 + m := ⟨n - 8, by omega⟩
  rw [show 8 + m - 8 = m by omega]
  obtain ⟨c, hc⟩ : ∃ c, pkC (F 1) (F 2) m (fun i => F (8 + i)) = c := ⟨_, rfl⟩
  have hw := ck_wholeK (F 1) (F 2) m (fun i => F (8 + i))
  have hcl : c ≤ 65535 := by rw [← hc]; unfold pkC; omega
  rw [hc] at hw ⊢
  have p := pk_at (F 1) (F 2) m c (fun i => F (8 + i))
  constructor
  · intro h
    have e0 := h 0 (by omega)
    have e3 := h 3 (by omega)
    have e4 := h 4 (by omega)
    have e5 := h 5 (by omega)
    have e6 := h 6 (by omega)
    have e7 := h 7 (by omega)
    have ht : tot F (8 + m) = tot (FpK (F 1) (F 2) m c (fun i => F (8 + i))) (8 + m) := tot_congr _ (fun i hi => (h i hi).symm)
    refine ⟨h8, h15, by omega, ht1, ht2, by omega, by omega, by rw [ht]; exact hw.1, by omega⟩
  · rintro ⟨_, _, g0, _, _, g3, g4, g5, g6⟩
    have f5 := hF 5 (by omega)
    have f6 := hF 6 (by omega)
    have f7 := hF 7 (by omega)
    have hx := pk_ext (t := F 1) (C := F 2) (n := m) (c := F 6 * 256 + F 7) (f := fun i => F (8 + i)) g0 rfl rfl g3 (by omega) (by omega) (by omega) (by omega) (fun i _ => rfl)
    have ht : tot F (8 + m) = tot (FpK (F 1) (F 2) m (F 6 * 256 + F 7) (fun i => F (8 + i))) (8 + m) := tot_congr _ hx
    rw [tot_checkK _ _ _ _ _ m (Nat.le_refl _)] at ht
    have hT := tot_headK (F 1) (F 2) m (fun i => F (8 + i)) m
    have hq := ck_only (T := tot (FpK (F 1) (F 2) m 0 (fun i => F (8 + i))) (8 + m)) (c := F 6 * 256 + F 7) (by omega) (by omega) (by rw [← ht]; exact g5)
    have hpk : pkC (F 1) (F 2) m (fun i => F (8 + i)) = 65535 - ckS (tot (FpK (F 1) (F 2) m 0 (fun i => F (8 + i))) (8 + m)) := rfl
    have hcc : F 6 * 256 + F 7 = c := by rw [hq, ← hpk, hc]
    rw [hcc] at hx
    exact fun i hi => (hx i hi).symm
def bstrK (n : Nat) (f : Nat → Nat) : ByteArray := strOfNums (((List.range n).map f).map fun x : Nat => (x : Int))
theorem conv_argK {w : World} {a : Option Addr} {n cap : Nat} {f : Nat → Nat} (h : 0 < n → ∃ b off, a = some ⟨b, off, none⟩ ∧ b < w.heap.size ∧ BytesAt w b off n f) :
    (convert 34 9 (.slice a n cap)).run Try.prog w = .ok (.string (bstrK n f)) w := by
  by_cases hn : n = 0
  · subst hn
    cases a with
    | none => exact run_convert_bytes_nil w 34 5 Try.underlying34 Try.underlying5 _ _ _ Try.underlying9
    | some ad => exact run_convert_bytes_back w 34 9 5 ad cap [] Try.underlying34 Try.underlying5 Try.underlying9 (fun j hj => absurd hj (by simp))
  · obtain ⟨b, off, rfl, _, hb⟩ := h (by omega)
    refine run_convert_bytes_arg w 34 5 Try.underlying34 Try.underlying5 b off n cap _ (by simp) (fun i hi => ?_) _ Try.underlying9
    rw [(hb i hi).1]
    simp [List.getD, hi]
theorem bstr_eqK {n1 n2 : Nat} {f1 f2 : Nat → Nat} (h1 : ∀ i, i < n1 → f1 i < 256) (h2 : ∀ i, i < n2 → f2 i < 256) : bstrK n1 f1 = bstrK n2 f2 ↔ (n1 = n2 ∧ ∀ i, i < n1 → f1 i = f2 i) := by
  constructor
  · intro h
    have hs : (bstrK n1 f1).size = (bstrK n2 f2).size := by rw [h]
    unfold bstrK at hs
    rw [strOfNums_size, strOfNums_size] at hs
    simp at hs
    refine ⟨hs, fun i hi => ?_⟩
    have hd : (bstrK n1 f1).data.toList = (bstrK n2 f2).data.toList := by rw [h]
    unfold bstrK at hd
    rw [strOfNums_data, strOfNums_data] at hd
    have h3 := congrArg (fun l => l[i]?) hd
    simp [hi, show i < n2 by omega] at h3
    have h4 := congrArg UInt8.toNat h3
    simp at h4
    have := h1 i hi
    have := h2 i (by omega)
    omega
  · rintro ⟨rfl, h⟩
    unfold bstrK
    congr 2
    exact List.map_congr_left (fun i hi => h i (by simpa using hi))
end Pk
end Go.Proofs.Ytkefkophlhcbiaa
namespace Go.Proofs.Ytkefkophlhcbiaa
open Go.ChangeShapes Go.WideShapes Go.ChangeAt Go.RowKit
set_option linter.unusedVariables false
set_option linter.unusedSimpArgs false
open Pk BigFrame
open Bs (cellB)

set_option maxRecDepth 100000 in
set_option maxHeartbeats 4000000 in
theorem rbuild_bad (num t C : Int) (a : Option Addr) (n cap : Nat) (w : World) (hn : n ≤ 9223372036854775807) (h : t < 1 ∨ 16 < t ∨ C < 0 ∨ 255 < C ∨ 1492 < n) :
    Calls Try.prog 25 #[.agg #[.int .i64 num, .int .i64 t, .int .i64 C, .slice a n cap]] w fun e w' => (∃ x, e = .returned (.tuple #[.slice none 0 0, .int .i64 x]) ∧ x ≠ 0) ∧ Below w.heap.size w w' := by
  have hB : ∀ o, Below w.heap.size w (w.alloc o) := fun o => (Below.refl _ _).alloc (Nat.le_refl _) _
  by_cases h1 : t < 1
  · go_enter Try.func25, Try.ntmps25
    go_wp2_with fail
    go_ret2
    exact ⟨⟨2, rfl, by omega⟩, hB _⟩
  by_cases h2 : 16 < t
  · go_enter Try.func25, Try.ntmps25
    go_wp2_with fail
    go_ret2
    exact ⟨⟨2, rfl, by omega⟩, hB _⟩
  by_cases h3 : C < 0
  · go_enter Try.func25, Try.ntmps25
    go_wp2_with fail
    go_ret2
    exact ⟨⟨2, rfl, by omega⟩, hB _⟩
  by_cases h4 : 255 < C
  · go_enter Try.func25, Try.ntmps25
    go_wp2_with fail
    go_ret2
    exact ⟨⟨2, rfl, by omega⟩, hB _⟩
  · have h5 : (1492 : Int) < (n : Int) := by omega
    go_enter Try.func25, Try.ntmps25
    go_wp2_with fail
    go_ret2
    exact ⟨⟨3, rfl, by omega⟩, hB _⟩

set_option maxRecDepth 100000 in
set_option maxHeartbeats 4000000 in
theorem rbuild_ok (num : Int) (t C : Nat) (a : Option Addr) (n cap rb off : Nat) (f : Nat → Nat) (w : World) (h1 : 1 ≤ t) (h2 : t ≤ 16) (h3 : C ≤ 255) (h4 : n ≤ 1492) (hb : 0 < n → a = some ⟨rb, off, none⟩ ∧ BytesAt w rb off n f ∧ rb < w.heap.size) :
    Calls Try.prog 25 #[.agg #[.int .i64 num, .int .i64 (t : Nat), .int .i64 (C : Nat), .slice a n cap]] w fun e w' => ∃ g c, e = .returned (.tuple #[.slice (some ⟨g, 0, none⟩) (8 + n) c, .int .i64 0]) ∧ 8 + n ≤ c ∧ c ≤ 9223372036854775807 ∧ w'.ownsRow w.heap.size 5 1 (.slice (some ⟨g, 0, none⟩) (8 + n) c) (8 + n) (bvals (pkL t C n (pkC t C n f) f)) ∧ w.heap.size ≤ g ∧ g < w'.heap.size ∧ Below w.heap.size w w' := by
  obtain ⟨i0, hi0, hz0, hz1, hz2⟩ := info_parts info_u8
  have k1 : ¬ ((t : Int) < 1) := by omega
  have k2 : ¬ ((16 : Int) < (t : Int)) := by omega
  have k3 : ¬ ((C : Int) < 0) := by omega
  have k4 : ¬ ((255 : Int) < (C : Int)) := by omega
  have k5 : ¬ ((1492 : Int) < (n : Int)) := by omega
  have k6 : (n : Int) / 256 % 256 = (n : Int) / 256 := by omega
  have hown0 : ((w.alloc (.cells #[.int .i64 num, .int .i64 (t : Nat), .int .i64 (C : Nat), .slice a n cap] 38)).alloc (.cells #[.int .u8 105, .int .u8 (t : Nat), .int .u8 (C : Nat), .int .u8 0, .int .u8 ((n : Int) / 256), .int .u8 ((n : Int) % 256), .int .u8 0, .int .u8 0] 5)).ownsRow w.heap.size 5 1 (.slice (some ⟨w.heap.size + 1, 0, none⟩) 8 8) 8 (bvals [105, t, C, 0, n / 256, n % 256, 0, 0]) := by
    have := World.ownsRow_lit (base := w.heap.size) (e := 5) (size := 1) (w.alloc (.cells #[.int .i64 num, .int .i64 (t : Nat), .int .i64 (C : Nat), .slice a n cap] 38)) #[.int .u8 105, .int .u8 (t : Nat), .int .u8 (C : Nat), .int .u8 0, .int .u8 ((n : Int) / 256), .int .u8 ((n : Int) % 256), .int .u8 0, .int .u8 0] 8 (by simp) (by unfold maxLen; omega) (by rfl)
    rw [World.size_alloc] at this
    simpa [bvals] using this
  have hB0 : Below w.heap.size w ((w.alloc (.cells #[.int .i64 num, .int .i64 (t : Nat), .int .i64 (C : Nat), .slice a n cap] 38)).alloc (.cells #[.int .u8 105, .int .u8 (t : Nat), .int .u8 (C : Nat), .int .u8 0, .int .u8 ((n : Int) / 256), .int .u8 ((n : Int) % 256), .int .u8 0, .int .u8 0] 5)) := ((Below.refl _ _).alloc (Nat.le_refl _) _).alloc (by simp) _
  have hZ0 : w.heap.size ≤ ((w.alloc (.cells #[.int .i64 num, .int .i64 (t : Nat), .int .i64 (C : Nat), .slice a n cap] 38)).alloc (.cells #[.int .u8 105, .int .u8 (t : Nat), .int .u8 (C : Nat), .int .u8 0, .int .u8 ((n : Int) / 256), .int .u8 ((n : Int) % 256), .int .u8 0, .int .u8 0] 5)).heap.size := hB0.size
  have hcells : 0 < n → ∃ ad, a = some ad ∧ ∀ j u, (bvals ((List.range n).map f))[j]? = some u → ((w.alloc (.cells #[.int .i64 num, .int .i64 (t : Nat), .int .i64 (C : Nat), .slice a n cap] 38)).alloc (.cells #[.int .u8 105, .int .u8 (t : Nat), .int .u8 (C : Nat), .int .u8 0, .int .u8 ((n : Int) / 256), .int .u8 ((n : Int) % 256), .int .u8 0, .int .u8 0] 5)).cell? (ad.add j) = some u := fun hp => by
    obtain ⟨q1, q2, q3⟩ := hb hp
    refine ⟨_, q1, fun j u hu => ?_⟩
    have hj : j < n := by have := (List.getElem?_eq_some_iff.1 hu).1; simpa [bvals] using this
    simp [bvals, hj] at hu
    subst hu
    rw [Addr.add_lit]
    exact (hB0.cell (p := ⟨rb, off + j, none⟩) q3).trans (q2 j hj).1
  have hlen : (bvals ((List.range n).map f)).length = n * 1 := by simp [bvals]
  have hmx : 8 + n ≤ maxLen := by unfold maxLen; omega
  replace hb := Lib.hid hb
  go_enter Try.func25, Try.ntmps25
  go_wp2_with (at_builtin; refine wpList_append_any rfl _ _ 34 (by rfl) w.heap.size 5 i0 _ 1 1 Try.underlying34 hi0 hz0 hz1 hz2 (by rfl) (by omega) _ _ _ (by rfl) hown0 (by omega) a n cap _ (by rfl) hlen hcells (bvals_one _) hmx (by omega) hZ0 ?_; intro g cg w3 hown1 hgrow1 hg1 hg2 hg3 hg4)
  have hpk : bvals [105, t, C, 0, n / 256, n % 256, 0, 0] ++ bvals ((List.range n).map f) = bvals (pkL t C n 0 f) := by simp [bvals, pkL]
  rw [hpk] at hown1
  have hlt : ∀ i, (pkL t C n 0 f).getD i 0 < 256 := pkL_lt (by omega) (by omega) (by omega) (by omega) (fun i hi => ((hb.out (by omega)).2.1 i hi).2)
  have hby : BytesAt w3 g 0 (8 + n) (fun i => (pkL t C n 0 f).getD i 0) := fun i hi => by
    refine ⟨?_, hlt i⟩
    rw [Nat.zero_add, hown1.cellAt i (by omega)]
    exact bvals_at _ i (by rw [pkL_len]; omega)
  have hB3 : Below w.heap.size w w3 := hB0.grown hgrow1 hZ0 (fun k hk => by have := (hown0.lt k hk).1; omega)
  refine (rcheck_c g 0 (8 + n) cg _ w3 hg3 (by omega) hby).mono ?_
  rintro e w4 ⟨rfl, rfl⟩
  rw [show 65535 - ckS (tot (fun i => (pkL t C n 0 f).getD i 0) (8 + n)) = pkC t C n f from rfl]
  obtain ⟨c, hc⟩ : ∃ c, pkC t C n f = c := ⟨_, rfl⟩
  have hcl : c ≤ 65535 := by rw [← hc]; unfold pkC; omega
  rw [hc]
  have hown4 := hown1
  have hB4 := hB3
  have hg24 := hg2
  have m6 : w4.cell? ⟨g, 6, none⟩ = some (.int .u8 0) := (hown4.cellAt 6 (by omega)).trans ((bvals_at _ 6 (by rw [pkL_len]; omega)).trans (by simp [pkL]))
  have m7 : w4.cell? ⟨g, 7, none⟩ = some (.int .u8 0) := (hown4.cellAt 7 (by omega)).trans ((bvals_at _ 7 (by rw [pkL_len]; omega)).trans (by simp [pkL]))
  have n6 : w4.frozen? ⟨g, 6, none⟩ = false := hown4.frozenAt 6
  have n7 : w4.frozen? ⟨g, 7, none⟩ = false := hown4.frozenAt 7
  have k7 : (c : Int) / 256 % 256 = (c : Int) / 256 := by omega
  have k8 : (6 : Int) < ((8 + n : Nat) : Int) := by omega
  have k9 : (7 : Int) < ((8 + n : Nat) : Int) := by omega
  replace hown4 := Lib.hid hown4
  replace hown0 := Lib.hid hown0
  clear hown1 hby hlt hpk hcells
  go_wp2_with fail
  go_ret2
  have s1 := hown4.out.stored 6 (.int .u8 ((c : Int) / 256))
  have s2 := s1.1.stored 7 (.int .u8 ((c : Int) % 256))
  refine ⟨g, cg, rfl, hg3, by unfold maxLen at hg4; omega, ?_, hg1, by simpa using hg24, ((hB4.grown s1.2 (by have := hB4.size; omega) (fun k hk => by cases hk; exact hg1)).grown s2.2 (by have := hB4.size; simpa using this) (fun k hk => by cases hk; exact hg1))⟩
  have he : ((bvals (pkL t C n 0 f)).set 6 (.int .u8 ((c : Int) / 256))).set 7 (.int .u8 ((c : Int) % 256)) = bvals (pkL t C n c f) := by simp [bvals, pkL]
  rw [hc, ← he]
  exact s2.1

set_option maxRecDepth 100000 in
set_option maxHeartbeats 4000000 in
theorem rparse_short (a : Option Addr) (n cap : Nat) (w : World) (h : n < 8) :
    Calls Try.prog 10 #[.slice a n cap] w fun e w' => e = .returned (.tuple #[.agg #[.int .i64 0, .int .i64 0, .int .i64 0, .slice none 0 0], .int .i64 230]) ∧ Below w.heap.size w w' := by
  have k : (n : Int) < 8 := by omega
  go_enter Try.func10, Try.ntmps10
  go_wp2_with fail
  refine bodyPost_ret (v := .tuple #[.agg #[.int .i64 0, .int .i64 0, .int .i64 0, .slice none 0 0], .int .i64 230]) (by simp [results, Try.results10, go_sem]) rfl ⟨rfl, (Below.refl _ _).alloc (Nat.le_refl _) _⟩

end Go.Proofs.Ytkefkophlhcbiaa
namespace Go.Proofs.Ytkefkophlhcbiaa
open Go.ChangeShapes Go.WideShapes Go.ChangeAt Go.RowKit
set_option linter.unusedVariables false
set_option linter.unusedSimpArgs false
open Pk BigFrame
open Bs (cellB)

namespace Pk
theorem wp_append_nil {w : World} {o : Oper} {a : Act} {K : Act → World → Prop} {Q : Exit → Act → World → Prop} (hgd : o.guard = none) (s x : Operand) (t : TypeId)
    (ho : o.op = .call { callee := .builtin .append, args := #[s, x], argTypes := #[t, t] })
    (base : Nat) (e : TypeId) (i : TypeInfo) (z : Value) (size bytes : Nat) (ht : Try.prog.underlying t = some (.slice e)) (hi : Try.prog.info? e = some i) (hz : i.zero = some z)
    (hsize : i.size = size) (hby : i.bytes = bytes) (hzs : z.cells.size = size) (hsz : 0 < size) (hs : a.eval s = .slice none 0 0)
    (b : Option Addr) (m c : Nat) (news : List Value) (hx : a.eval x = .slice b m c) (hl : news.length = m * size) (hnews : 0 < m → ∃ ad, b = some ad ∧ ∀ j u, news[j]? = some u → w.cell? (ad.add j) = some u) (h1 : ∀ u ∈ news, u.oneCell' = true)
    (h63 : 0 + m ≤ maxLen) (hbytes : (0 + m) * bytes ≤ 140737488355328) (hbase : base ≤ w.heap.size)
    (h : ∀ a1 k1 w', w'.ownsRow base e size (.slice a1 m k1) m news → (m = 0 → a1 = none ∧ k1 = 0) → Below base w w' → K (a.put o.dst (.slice a1 m k1)) w') : o.wp Try.prog a w K Q := by
  have h := step_append_nil (ops := #[]) (Q := Q) (E := True) (K := K) hgd s x t ho base e i z size bytes ht hi hz hsize hby hzs hsz hs b m c news hx hl hnews h1 h63 hbytes hbase h
  rwa [if_pos (by simp [Region.wanted, hgd])] at h
theorem ba_neK {a b : ByteArray} (h : ¬ a = b) : ¬ a.toList = b.toList := fun hh => h (by
  rw [ByteArray.toList_eq, ByteArray.toList_eq] at hh
  exact ByteArray.ext (Array.ext' hh))
/-- What the document's Parse answers. -/
def RParseP (n : Nat) (F : Nat → Nat) (w : World) (e : Ending) (w' : World) : Prop := ((goodF n F ∧ ∃ a1 m1 c1, e = .returned (.tuple #[.agg #[.int .i64 0, .int .i64 (F 1 : Nat), .int .i64 (F 2 : Nat), .slice a1 m1 c1], .int .i64 0])) ∨ (¬ goodF n F ∧ e = .returned (.tuple #[.agg #[.int .i64 0, .int .i64 0, .int .i64 0, .slice none 0 0], .int .i64 230]))) ∧ Below w.heap.size w w'
end Pk

set_option maxRecDepth 100000 in
set_option maxHeartbeats 8000000 in
theorem rparse_ok (b o n cap : Nat) (F : Nat → Nat) (w : World) (h8 : 8 ≤ n) (h15 : n ≤ 100000) (hcap : n ≤ cap) (hc2 : cap ≤ 9223372036854775807) (hb : BytesAt w b o n F) (hbl : b < w.heap.size) :
    Calls Try.prog 10 #[.slice (some ⟨b, o, none⟩) n cap] w (RParseP n F w) := by
  obtain ⟨i0, hi0, hz0, hz1, hz2⟩ := info_parts info_u8
  have k : ¬ (n : Int) < 8 := by omega
  obtain ⟨c1, f1⟩ := hb 1 (by omega)
  obtain ⟨c2, f2⟩ := hb 2 (by omega)
  have k1 : (1 : Int) < (n : Int) := by omega
  have k2 : (2 : Int) < (n : Int) := by omega
  have k8 : (8 : Int) ≤ (n : Int) := by omega
  have k9 : (8 : Int) ≤ (cap : Int) := by omega
  have w1 : IntKind.i64.wrap ((F 1 : Nat) : Int) = ((F 1 : Nat) : Int) := IntWalk.i64_in _ ⟨by omega, by omega⟩
  have w2 : IntKind.i64.wrap ((F 2 : Nat) : Int) = ((F 2 : Nat) : Int) := IntWalk.i64_in _ ⟨by omega, by omega⟩
  have hB0 := (Below.refl w.heap.size w).alloc (Nat.le_refl _) (.cells #[.int .i64 0, .int .i64 0, .int .i64 0, .slice none 0 0] 38)
  have bz := By.blkN_new w [.int .i64 0, .int .i64 0, .int .i64 0, .slice none 0 0] 38
  have d1 := (hB0.cell (p := ⟨b, o + 1, none⟩) hbl).trans c1
  have d2 := (hB0.cell (p := ⟨b, o + 2, none⟩) hbl).trans c2
  replace bz := Lib.hid bz
  go_enter Try.func10, Try.ntmps10
  go_upto_region 3 with fail
  generalize (w.alloc (.cells #[.int .i64 0, .int .i64 0, .int .i64 0, .slice none 0 0] 38)) = W at hB0 bz d1 d2 ⊢
  refine wp_region_noPanic ?_
  refine Stg.wp_region_L [10] (Bs.SB W) (by kernel_rfl) (fun _ => (Below.refl _ _).drew) (fun hHeld => ?_)
  refine Stg.wpAnyL_start (n' := 11) (l' := #[false, false, false, false, false, false, false, false, false, false, false]) (by kernel_rfl) (by kernel_rfl) ?_
  refine Stg.wpAnyL_free (i := 0) (v := ?_) 0 rfl (by kernel_rfl) (by kernel_rfl) (by kernel_rfl) (by kernel_rfl) (by kernel_rfl) (fun _ _ _ h => h) (Or.inl ⟨by kernel_rfl, ?_⟩) (by assumption) ?_
  rotate_left
  · intro u _
    try simp only [List.getElem_toArray, List.getElem_cons_succ, List.getElem_cons_zero]
    go_simp
    try with_reducible rfl
  try simp only [Act.put, List.setIfInBounds_toArray, List.set_cons_zero, List.set_cons_succ]
  refine Stg.wpAnyL_free (i := 1) (v := ?_) 0 rfl (by kernel_rfl) (by kernel_rfl) (by kernel_rfl) (by kernel_rfl) (by kernel_rfl) (fun _ _ _ h => h) (Or.inl ⟨by kernel_rfl, ?_⟩) (by assumption) ?_
  rotate_left
  · intro u _
    try simp only [List.getElem_toArray, List.getElem_cons_succ, List.getElem_cons_zero]
    go_simp
    try with_reducible rfl
  try simp only [Act.put, List.setIfInBounds_toArray, List.set_cons_zero, List.set_cons_succ]
  refine Stg.wpAnyL_take (i := 2) (v := ?_) [3, 8, 10] 0 rfl (by kernel_rfl) (by kernel_rfl) (by kernel_rfl) (by kernel_rfl) (by kernel_rfl) (fun _ _ _ h => h) (Or.inl ⟨by kernel_rfl, ?_⟩) (by assumption) ?_
  rotate_left
  · intro u hSu
    skip
    have sB := hSu rfl
    have y0 := cellB sB d1
    have y1 := cellB sB d2
    try simp only [List.getElem_toArray, List.getElem_cons_succ, List.getElem_cons_zero]
    go_simp
    try with_reducible rfl
  try simp only [Act.put, List.setIfInBounds_toArray, List.set_cons_zero, List.set_cons_succ]
  refine Stg.wpAnyL_start (n' := 8) (l' := #[true, true, true, false, false, false, false, false, false, false, false]) (by kernel_rfl) (by kernel_rfl) ?_
  refine Stg.wpAnyL_free (i := 3) (v := ?_) 0 rfl (by kernel_rfl) (by kernel_rfl) (by kernel_rfl) (by kernel_rfl) (by kernel_rfl) (fun _ _ _ h => h) (Or.inl ⟨by kernel_rfl, ?_⟩) (by assumption) ?_
  rotate_left
  · intro u _
    try simp only [List.getElem_toArray, List.getElem_cons_succ, List.getElem_cons_zero]
    go_simp
    try with_reducible rfl
  try simp only [Act.put, List.setIfInBounds_toArray, List.set_cons_zero, List.set_cons_succ]
  refine Stg.wpAnyL_free (i := 4) (v := ?_) 0 rfl (by kernel_rfl) (by kernel_rfl) (by kernel_rfl) (by kernel_rfl) (by kernel_rfl) (fun _ _ _ h => h) (Or.inl ⟨by kernel_rfl, ?_⟩) (by assumption) ?_
  rotate_left
  · intro u _
    try simp only [List.getElem_toArray, List.getElem_cons_succ, List.getElem_cons_zero]
    go_simp
    try with_reducible rfl
  try simp only [Act.put, List.setIfInBounds_toArray, List.set_cons_zero, List.set_cons_succ]
  refine Stg.wpAnyL_free (i := 5) (v := ?_) 0 rfl (by kernel_rfl) (by kernel_rfl) (by kernel_rfl) (by kernel_rfl) (by kernel_rfl) (fun _ _ _ h => h) (Or.inl ⟨by kernel_rfl, ?_⟩) (by assumption) ?_
  rotate_left
  · intro u _
    try simp only [List.getElem_toArray, List.getElem_cons_succ, List.getElem_cons_zero]
    go_simp
    try with_reducible rfl
  try simp only [Act.put, List.setIfInBounds_toArray, List.set_cons_zero, List.set_cons_succ]
  refine Stg.wpAnyL_start (n' := 5) (l' := #[true, true, true, true, true, true, false, false, false, false, false]) (by kernel_rfl) (by kernel_rfl) ?_
  refine Stg.wpAnyL_take (i := 6) (v := ?_) [7, 8, 10] 0 rfl (by kernel_rfl) (by kernel_rfl) (by kernel_rfl) (by kernel_rfl) (by kernel_rfl) (fun _ _ _ h => h) (Or.inl ⟨by kernel_rfl, ?_⟩) (by assumption) ?_
  rotate_left
  · intro u hSu
    skip
    have sB := hSu rfl
    have y0 := cellB sB d1
    have y1 := cellB sB d2
    try simp only [List.getElem_toArray, List.getElem_cons_succ, List.getElem_cons_zero]
    go_simp
    try with_reducible rfl
  try simp only [Act.put, List.setIfInBounds_toArray, List.set_cons_zero, List.set_cons_succ]
  refine Stg.wpAnyL_free (i := 7) (v := ?_) 0 rfl (by kernel_rfl) (by kernel_rfl) (by kernel_rfl) (by kernel_rfl) (by kernel_rfl) (fun _ _ _ h => h) (Or.inl ⟨by kernel_rfl, ?_⟩) (by assumption) ?_
  rotate_left
  · intro u _
    try simp only [List.getElem_toArray, List.getElem_cons_succ, List.getElem_cons_zero]
    go_simp
    try with_reducible rfl
  try simp only [Act.put, List.setIfInBounds_toArray, List.set_cons_zero, List.set_cons_succ]
  refine Stg.wpAnyL_free (i := 8) (v := ?_) 0 rfl (by kernel_rfl) (by kernel_rfl) (by kernel_rfl) (by kernel_rfl) (by kernel_rfl) (fun _ _ _ h => h) (Or.inl ⟨by kernel_rfl, ?_⟩) (by assumption) ?_
  rotate_left
  · intro u _
    try simp only [List.getElem_toArray, List.getElem_cons_succ, List.getElem_cons_zero]
    go_simp
    try with_reducible rfl
  try simp only [Act.put, List.setIfInBounds_toArray, List.set_cons_zero, List.set_cons_succ]
  refine Stg.wpAnyL_start (n' := 2) (l' := #[true, true, true, true, true, true, true, true, true, false, false]) (by kernel_rfl) (by kernel_rfl) ?_
  refine Stg.wpAnyL_one (i := 9) 0 rfl (by kernel_rfl) (by kernel_rfl) (fun K hK => ?_)
  try simp only [List.getElem_toArray, List.getElem_cons_succ, List.getElem_cons_zero]
  go_simp
  refine hK.out _ _ ?_ (fun hHeld1 => ?_)
  · exact fun _ => bNext (hHeld rfl) ((Below.refl _ _).alloc (Nat.le_refl _) _) (Nat.le_refl _)
  clear hK K
  try simp only [Act.put, List.setIfInBounds_toArray, List.set_cons_zero, List.set_cons_succ]
  refine Stg.wpAnyL_one (i := 10) 1 rfl (by kernel_rfl) (by kernel_rfl) (fun K hK => ?_)
  try simp only [List.getElem_toArray, List.getElem_cons_succ, List.getElem_cons_zero]
  go_simp
  refine hK.out _ _ ?_ (fun hHeld2 => ?_)
  · exact fun h => absurd h (by decide)
  clear hK K
  try simp only [Act.put, List.setIfInBounds_toArray, List.set_cons_zero, List.set_cons_succ]
  refine Stg.wpAnyL_done (by kernel_rfl) ?_ _
  try simp only [List.getElem_toArray, List.getElem_cons_succ, List.getElem_cons_zero]
  try simp only [Act.put, List.setIfInBounds_toArray, List.set_cons_zero, List.set_cons_succ]
  refine NoPanic.normal ?_
  skip
  go_upto_region 4 with fail
  have hWU : Below W.heap.size W (W.alloc (.cells #[.int .i64 0, .int .i64 (F 1 : Nat), .int .i64 (F 2 : Nat), .slice none 0 0] 38)).drew := ((Below.refl W.heap.size W).alloc (Nat.le_refl _) _).drew
  have bz2 := Lib.hid (bz.out.bel hWU)
  have bp := (By.blkN_new W [.int .i64 0, .int .i64 (F 1 : Nat), .int .i64 (F 2 : Nat), .slice none 0 0] 38).drew
  have hBU := bNext hB0 hWU (Nat.le_refl _)
  have hbU : BytesAt (W.alloc (.cells #[.int .i64 0, .int .i64 (F 1 : Nat), .int .i64 (F 2 : Nat), .slice none 0 0] 38)).drew b o n F := fun i hi => ⟨(hBU.cell (p := ⟨b, o + i, none⟩) hbl).trans (hb i hi).1, (hb i hi).2⟩
  have hbW : w.heap.size < W.heap.size := bz.out.l
  clear d1 d2 hWU bz hHeld hHeld1
  generalize (W.alloc (.cells #[.int .i64 0, .int .i64 (F 1 : Nat), .int .i64 (F 2 : Nat), .slice none 0 0] 38)).drew = U at bz2 bp hBU hbU ⊢
  generalize W.heap.size = pb at hbW bp ⊢
  have y3 := bp.c 3 _ rfl
  have hpbU : pb < U.heap.size := bp.l
  obtain ⟨X, hX⟩ : ∃ X, (if cap = 8 then some (⟨b, o, none⟩ : Addr) else some ⟨b, o + 8, none⟩) = X := ⟨_, rfl⟩
  have hcells : 0 < n - 8 → ∃ ad, (if cap = 8 then some (⟨b, o, none⟩ : Addr) else some ⟨b, o + 8, none⟩) = some ad ∧ ∀ j u, (tailV F (n - 8))[j]? = some u → U.drew.cell? (ad.add j) = some u := fun hp => by
    refine ⟨⟨b, o + 8, none⟩, by rw [if_neg (by omega)], fun j u hu => ?_⟩
    have hj : j < n - 8 := by have := (List.getElem?_eq_some_iff.1 hu).1; rw [tailV_len] at this; omega
    have h2 := (hbU (8 + j) (by omega)).1
    rw [← Nat.add_assoc] at h2
    simp [tailV, bvals, hj] at hu
    subst hu
    rw [Addr.add_lit]
    simpa using h2
  rw [hX] at hcells
  replace hcells := Lib.hid hcells
  replace hbU := Lib.hid hbU
  replace bp := Lib.hid bp
  have hmx : 0 + (n - 8) ≤ maxLen := by unfold maxLen; omega
  have hby : (0 + (n - 8)) * 1 ≤ 140737488355328 := by omega
  refine wp_region_noPanic ?_
  refine Stg.wp_region_L [4, 6] (Bs.SB U) (by kernel_rfl) (fun _ => (Below.refl _ _).drew) (fun hHeld => ?_)
  refine Stg.wpAnyL_start (n' := 7) (l' := #[false, false, false, false, false, false, false]) (by kernel_rfl) (by kernel_rfl) ?_
  refine Stg.wpAnyL_free (i := 0) (v := ?_) 0 rfl (by kernel_rfl) (by kernel_rfl) (by kernel_rfl) (by kernel_rfl) (by kernel_rfl) (fun _ _ _ h => h) (Or.inl ⟨by kernel_rfl, ?_⟩) (by assumption) ?_
  rotate_left
  · intro u _
    try simp only [List.getElem_toArray, List.getElem_cons_succ, List.getElem_cons_zero]
    go_simp
    try with_reducible rfl
  try simp only [Act.put, List.setIfInBounds_toArray, List.set_cons_zero, List.set_cons_succ]
  refine Stg.wpAnyL_take (i := 1) (v := ?_) [4, 5, 6] 0 rfl (by kernel_rfl) (by kernel_rfl) (by kernel_rfl) (by kernel_rfl) (by kernel_rfl) (fun _ _ _ h => h) (Or.inl ⟨by kernel_rfl, ?_⟩) (by assumption) ?_
  rotate_left
  · intro u hSu
    skip
    have sB := hSu rfl
    have y0 := cellB sB y3
    try simp only [List.getElem_toArray, List.getElem_cons_succ, List.getElem_cons_zero]
    go_simp
    try with_reducible rfl
  try simp only [Act.put, List.setIfInBounds_toArray, List.set_cons_zero, List.set_cons_succ]
  refine Stg.wpAnyL_free (i := 2) (v := ?_) 0 rfl (by kernel_rfl) (by kernel_rfl) (by kernel_rfl) (by kernel_rfl) (by kernel_rfl) (fun _ _ _ h => h) (Or.inl ⟨by kernel_rfl, ?_⟩) (by assumption) ?_
  rotate_left
  · intro u _
    try simp only [List.getElem_toArray, List.getElem_cons_succ, List.getElem_cons_zero]
    go_simp
    try with_reducible rfl
  try simp only [Act.put, List.setIfInBounds_toArray, List.set_cons_zero, List.set_cons_succ]
  refine Stg.wpAnyL_start (n' := 4) (l' := #[true, true, true, false, false, false, false]) (by kernel_rfl) (by kernel_rfl) ?_
  refine Stg.wpAnyL_free (i := 3) (v := ?_) 0 rfl (by kernel_rfl) (by kernel_rfl) (by kernel_rfl) (by kernel_rfl) (by kernel_rfl) (fun _ _ _ h => h) (Or.inl ⟨by kernel_rfl, ?_⟩) (by assumption) ?_
  rotate_left
  · intro u _
    try simp only [List.getElem_toArray, List.getElem_cons_succ, List.getElem_cons_zero]
    go_simp
    try with_reducible rfl
  try simp only [Act.put, List.setIfInBounds_toArray, List.set_cons_zero, List.set_cons_succ]
  refine Stg.wpAnyL_one (i := 4) 1 rfl (by kernel_rfl) (by kernel_rfl) (fun K hK => ?_)
  try simp only [List.getElem_toArray, List.getElem_cons_succ, List.getElem_cons_zero]
  rw [if_pos (by kernel_rfl)]
  refine wp_append_nil rfl (.tmp 21) (.tmp 23) 34 rfl U.heap.size 5 i0 _ 1 1 Try.underlying34 hi0 hz0 hz1 hz2 (by rfl) (by omega) (by kernel_rfl) X (n - 8) (cap - 8) (tailV F (n - 8)) (by kernel_rfl) (tailV_len F _) hcells.out (bvals_one _) hmx hby (Nat.le_refl _) ?_
  intro a1 p1 w3 hown1 hnil1 hb1
  refine hK.out _ _ ?_ (fun hHeld1 => ?_)
  · exact fun h => absurd h (by decide)
  clear hK K
  try simp only [Act.put, List.setIfInBounds_toArray, List.set_cons_zero, List.set_cons_succ]
  refine Stg.wpAnyL_free (i := 5) (v := ?_) 1 rfl (by kernel_rfl) (by kernel_rfl) (by kernel_rfl) (by kernel_rfl) (by kernel_rfl) (fun _ _ _ h => h) (Or.inl ⟨by kernel_rfl, ?_⟩) (by assumption) ?_
  rotate_left
  · intro u _
    try simp only [List.getElem_toArray, List.getElem_cons_succ, List.getElem_cons_zero]
    go_simp
    try with_reducible rfl
  try simp only [Act.put, List.setIfInBounds_toArray, List.set_cons_zero, List.set_cons_succ]
  refine Stg.wpAnyL_start (n' := 1) (l' := #[true, true, true, true, true, true, false]) (by kernel_rfl) (by kernel_rfl) ?_
  refine Stg.wpAnyL_one (i := 6) 2 rfl (by kernel_rfl) (by kernel_rfl) (fun K hK => ?_)
  have z3 := (hb1.cell (p := ⟨pb, 3, none⟩) hpbU).trans (show U.drew.cell? _ = _ from y3)
  have zf := fun q => (hb1.frozen (p := ⟨pb, q, none⟩) hpbU).trans (show U.drew.frozen? _ = _ from bp.out.f q)
  try simp only [List.getElem_toArray, List.getElem_cons_succ, List.getElem_cons_zero]
  go_simp
  refine hK.out _ _ ?_ (fun hHeld2 => ?_)
  · exact fun h => absurd h (by decide)
  clear hK K
  try simp only [Act.put, List.setIfInBounds_toArray, List.set_cons_zero, List.set_cons_succ]
  refine Stg.wpAnyL_done (by kernel_rfl) ?_ _
  try simp only [List.getElem_toArray, List.getElem_cons_succ, List.getElem_cons_zero]
  try simp only [Act.put, List.setIfInBounds_toArray, List.set_cons_zero, List.set_cons_succ]
  refine NoPanic.normal ?_
  skip
  go_upto_region 5 with fail
  have hBW : Below w.heap.size w (w3.setCell ⟨pb, 3, none⟩ (.slice a1 (n - 8) p1)) := ((hBU.drew.trans (hb1.mono hBU.size))).setCell (p := ⟨pb, 3, none⟩) (show w.heap.size ≤ pb by omega) _
  have bp4 := ((bp.out.drew).below hb1 hpbU).set (i := 3) (by simp) (.slice a1 (n - 8) p1)
  have bz4 := ((bz2.out.drew).below hb1 bz2.out.l).other (o := 3) (show w.heap.size ≠ pb by omega) (.slice a1 (n - 8) p1)
  have hs3 := hb1.size
  obtain ⟨rb, off, hld⟩ : ∃ rb off, 0 < n - 8 → a1 = some ⟨rb, off, none⟩ ∧ BytesAt (w3.setCell ⟨pb, 3, none⟩ (.slice a1 (n - 8) p1)) rb off (n - 8) (fun i => F (8 + i)) ∧ rb < (w3.setCell ⟨pb, 3, none⟩ (.slice a1 (n - 8) p1)).heap.size := by
    rcases hown1.2 with ⟨h1, h2⟩ | ⟨g, cap', cur, h1, h2, _⟩
    · exact ⟨0, 0, fun hh => by omega⟩
    · cases h1
      have hlt := (hown1.lt g rfl)
      refine ⟨g, 0, fun hh => ⟨rfl, fun i hi => ⟨?_, (hbU.out (8 + i) (by omega)).2⟩, by simpa using hlt.2⟩⟩
      rw [Nat.zero_add]
      refine (World.cell?_setCell_other _ _ _ _ (by simp <;> omega)).trans ((hown1.cellAt i (by omega)).trans ?_)
      simp [tailV, bvals, hi]
  have hbV : BytesAt (w3.setCell ⟨pb, 3, none⟩ (.slice a1 (n - 8) p1)) b o n F := fun i hi => ⟨(hBW.cell (p := ⟨b, o + i, none⟩) hbl).trans (hb i hi).1, (hb i hi).2⟩
  have hszV : pb < (w3.setCell ⟨pb, 3, none⟩ (.slice a1 (n - 8) p1)).heap.size := bp4.l
  replace hld := Lib.hid hld
  replace hbV := Lib.hid hbV
  replace hb := Lib.hid hb
  clear y3 z3 zf hown1 hb1 hs3 hcells hbU bp bz2 hBU hX hHeld hHeld1 hB0 hnil1
  generalize w3.setCell ⟨pb, 3, none⟩ (.slice a1 (n - 8) p1) = V at hBW bp4 bz4 hld hbV hszV ⊢
  have v0 := bp4.c 0 _ rfl
  have v1 := bp4.c 1 _ rfl
  have v2 := bp4.c 2 _ rfl
  have v3 := bp4.c 3 _ rfl
  replace bp4 := Lib.hid bp4
  replace bz4 := Lib.hid bz4
  obtain ⟨m, hm⟩ : ∃ m, n - 8 = m := ⟨_, rfl⟩
  have hn8 : n = 8 + m := by omega
  rw [hm] at v3 hld bp4 ⊢
  have hmH := Lib.hid hm
  have hn8H := Lib.hid hn8
  clear hm hn8 hmx hby
  by_cases hbad : F 1 < 1 ∨ 16 < F 1 ∨ 1492 < m
  · have hno : RowKit.Hid (¬ goodF n F) := Lib.hid (fun g => by have := g.2.1; have := g.2.2.2.1; have := g.2.2.2.2.1; have := hn8H.out; omega)
    have hbc := Lib.hid (rbuild_bad 0 (F 1 : Nat) (F 2 : Nat) a1 m p1 V (by have := hn8H.out; omega) (by omega))
    go_wp2_with fail
    refine hbc.out.mono ?_
    rintro e w5 ⟨⟨x, rfl, hx⟩, hb5⟩
    have hxb : (x == 0) = false := by simpa using hx
    have bz5 := bz4.out.bel hb5
    have z0 := bz5.c 0 _ rfl
    have z1 := bz5.c 1 _ rfl
    have z2 := bz5.c 2 _ rfl
    have z3 := bz5.c 3 _ rfl
    have zf := bz5.f
    have hB5 := bNext hBW hb5 (by omega)
    clear hb5 hbc v0 v1 v2 v3
    go_wp2_with fail
    obtain ⟨s0, s1, s2, s3⟩ := set4 (.int .i64 0) (.int .i64 0) (.int .i64 0) (.slice none 0 0) z0 z1 z2 z3
    exact bodyPost_ret (v := .tuple #[.agg #[.int .i64 0, .int .i64 0, .int .i64 0, .slice none 0 0], .int .i64 230]) (by simp [results, Try.results10, go_sem, s0, s1, s2, s3]) rfl ⟨.inr ⟨hno.out, rfl⟩, below4 hB5 (Nat.le_refl _) _ _ _ _⟩
  · have hbc := Lib.hid (rbuild_ok 0 (F 1) (F 2) a1 m p1 rb off (fun i => F (8 + i)) V (by omega) (by omega) (by omega) (by omega) hld.out)
    go_wp2_with fail
    refine hbc.out.mono ?_
    rintro e w5 ⟨g, cg, rfl, hg1, hg2, hown5, hg3, hg4, hb5⟩
    have hlt : ∀ i, (pkL (F 1) (F 2) m (pkC (F 1) (F 2) m (fun i => F (8 + i))) (fun i => F (8 + i))).getD i 0 < 256 := pkL_lt (by omega) (by omega) (by omega) (by unfold pkC; omega) (fun i hi => (hb.out (8 + i) (by have := hn8H.out; omega)).2)
    have e1 : BytesAt w5 g 0 (8 + m) (fun i => FpK (F 1) (F 2) m (pkC (F 1) (F 2) m (fun i => F (8 + i))) (fun i => F (8 + i)) i) := fun i hi => by
      refine ⟨?_, hlt i⟩
      rw [Nat.zero_add, hown5.cellAt i (by omega)]
      exact bvals_at _ i (by rw [pkL_len]; omega)
    have e2 : BytesAt w5 b o n F := fun i hi => ⟨(hb5.cell (p := ⟨b, o + i, none⟩) (show b < V.heap.size by have := hBW.size; omega)).trans (hbV.out i hi).1, (hbV.out i hi).2⟩
    have g1 := conv_argK (cap := cg) (a := some ⟨g, 0, none⟩) (n := 8 + m) (w := w5) (fun _ => ⟨g, 0, rfl, hg4, e1⟩)
    have g2 := conv_argK (cap := cap) (a := some ⟨b, o, none⟩) (n := n) (w := w5) (fun _ => ⟨b, o, rfl, by have := hBW.size; have := hb5.size; omega, e2⟩)
    have hiff := bstr_eqK (n1 := 8 + m) (n2 := n) (f1 := fun i => FpK (F 1) (F 2) m (pkC (F 1) (F 2) m (fun i => F (8 + i))) (fun i => F (8 + i)) i) (f2 := F) (fun i hi => hlt i) (fun i hi => (hb.out i hi).2)
    have hgi : bstrK (8 + m) (fun i => FpK (F 1) (F 2) m (pkC (F 1) (F 2) m (fun i => F (8 + i))) (fun i => F (8 + i)) i) = bstrK n F ↔ goodF n F := by
      rw [hiff]
      have hq := good_iff (n := n) (F := F) (fun i hi => (hb.out i hi).2) h8 (by have := hn8H.out; omega) (by omega) (by omega)
      rw [hmH.out] at hq
      rw [← hq, hn8H.out]
      exact ⟨fun h => h.2, fun h => ⟨rfl, h⟩⟩
    generalize bstrK (8 + m) (fun i => FpK (F 1) (F 2) m (pkC (F 1) (F 2) m (fun i => F (8 + i))) (fun i => F (8 + i)) i) = S1 at g1 hgi
    generalize bstrK n F = S2 at g2 hgi
    have bz5 := bz4.out.bel hb5
    have bp5 := bp4.out.bel hb5
    have z0 := bz5.c 0 _ rfl
    have z1 := bz5.c 1 _ rfl
    have z2 := bz5.c 2 _ rfl
    have z3 := bz5.c 3 _ rfl
    have zf := bz5.f
    have u0 := bp5.c 0 _ rfl
    have u1 := bp5.c 1 _ rfl
    have u2 := bp5.c 2 _ rfl
    have u3 := bp5.c 3 _ rfl
    have hB5 := bNext hBW hb5 (by omega)
    clear hb5 hbc v0 v1 v2 v3 hown5 hlt e1 e2 hiff
    by_cases hS : S1 = S2
    · have hg := Lib.hid (hgi.1 hS)
      subst hS
      clear hgi
      go_wp2_with fail
      obtain ⟨s0, s1, s2, s3⟩ := set4 (.int .i64 0) (.int .i64 (F 1 : Nat)) (.int .i64 (F 2 : Nat)) (.slice a1 m p1) z0 z1 z2 z3
      exact bodyPost_ret (v := .tuple #[.agg #[.int .i64 0, .int .i64 (F 1 : Nat), .int .i64 (F 2 : Nat), .slice a1 m p1], .int .i64 0]) (by simp [results, Try.results10, go_sem, s0, s1, s2, s3]) rfl ⟨.inl ⟨hg.out, _, _, _, rfl⟩, below4 hB5 (Nat.le_refl _) _ _ _ _⟩
    · have hg := Lib.hid (fun q => hS (hgi.2 q))
      have hSn := ba_neK hS
      have hSb : (S1.toList == S2.toList) = false := by simpa using hSn
      clear hgi hS
      go_wp2_with fail
      obtain ⟨s0, s1, s2, s3⟩ := set4 (.int .i64 0) (.int .i64 0) (.int .i64 0) (.slice none 0 0) z0 z1 z2 z3
      exact bodyPost_ret (v := .tuple #[.agg #[.int .i64 0, .int .i64 0, .int .i64 0, .slice none 0 0], .int .i64 230]) (by simp [results, Try.results10, go_sem, s0, s1, s2, s3]) rfl ⟨.inr ⟨hg.out, rfl⟩, below4 hB5 (Nat.le_refl _) _ _ _ _⟩
end Go.Proofs.Ytkefkophlhcbiaa
namespace Go.Proofs.Ytkefkophlhcbiaa
open Go.ChangeShapes Go.WideShapes Go.ChangeAt Go.RowKit
set_option linter.unusedVariables false
set_option linter.unusedSimpArgs false
open Pk BigFrame By
open Bs (cellB)

namespace Pk
def goodD (d : List Nat) : Prop := goodF d.length (fun i => d.getD i 0)
/-- What a Parse answers. -/
def ParseL (d : List Nat) (w : World) (e : Ending) (w' : World) : Prop := ((goodD d ∧ ∃ a1 m1 c1, e = .returned (.tuple #[.agg #[.int .i64 0, .int .i64 (d.getD 1 0 : Nat), .int .i64 (d.getD 2 0 : Nat), .slice a1 m1 c1], .int .i64 0])) ∨ (¬ goodD d ∧ e = .returned (.tuple #[.agg #[.int .i64 0, .int .i64 0, .int .i64 0, .slice none 0 0], .int .i64 230]))) ∧ Below w.heap.size w w'
theorem byt_at {w : World} {a : Option Addr} {n cap : Nat} {d : List Nat} (h : Byt w a n cap d) (hn : 0 < n) : ∃ b o, a = some ⟨b, o, none⟩ ∧ b < w.heap.size ∧ BytesAt w b o n (fun i => d.getD i 0) := by
  obtain ⟨b, o, ha, hb, hc⟩ := h.row hn
  refine ⟨b, o, ha, hb, fun i hi => ?_⟩
  have hl := h.len
  have hx : d[i]? = some (d.getD i 0) := by rw [List.getD_eq_getElem?_getD, List.getElem?_eq_getElem (by omega)]; rfl
  exact hc i _ hx
end Pk
theorem rparseL_c (a : Option Addr) (n cap : Nat) (d : List Nat) (w : World) (h : Byt w a n cap d) (hn : n ≤ 100000) :
    Calls Try.prog 10 #[.slice a n cap] w (ParseL d w) := by
  by_cases h8 : n < 8
  · refine (rparse_short a n cap w h8).mono ?_
    rintro e w' ⟨rfl, hb⟩
    exact ⟨.inr ⟨fun g => by have := g.1; have := h.len; omega, rfl⟩, hb⟩
  · obtain ⟨b, o, rfl, hb, hB⟩ := byt_at h (by omega)
    refine (rparse_ok b o n cap _ w (by omega) hn h.le h.mx hB hb).mono ?_
    rintro e w' ⟨hq, hbb⟩
    refine ⟨?_, hbb⟩
    unfold goodD
    rw [← h.len]
    exact hq
theorem parseL_c (a : Option Addr) (n cap : Nat) (d : List Nat) (w : World) (h : Byt w a n cap d) :
    Calls Try.prog 26 #[.slice a n cap] w (ParseL d w) := by
  by_cases h8 : n < 8
  · refine (parse_short a n cap w h8).mono ?_
    rintro e w' ⟨rfl, hb⟩
    exact ⟨.inr ⟨fun g => by have := g.1; have := h.len; omega, rfl⟩, hb⟩
  · obtain ⟨b, o, rfl, hb, hB⟩ := byt_at h (by omega)
    have hl := h.len
    by_cases hck : ckS (tot (fun i => d.getD i 0) n) = 65535
    · by_cases hh : n ≤ 1500 ∧ d.getD 0 0 = 105 ∧ 1 ≤ d.getD 1 0 ∧ d.getD 1 0 ≤ 16 ∧ d.getD 3 0 = 0 ∧ d.getD 4 0 * 256 + d.getD 5 0 = n - 8 ∧ ¬ (d.getD 6 0 = 255 ∧ d.getD 7 0 = 255)
      · refine (parse_ok b o n cap (fun i => d.getD i 0) w (by omega) hh.1 h.le h.mx hB hb hh.2.1 hh.2.2.1 hh.2.2.2.1 hh.2.2.2.2.1 hh.2.2.2.2.2.1 hck hh.2.2.2.2.2.2).mono ?_
        rintro e w' ⟨v, rfl, hown, _, hbb⟩
        have hg : goodD d := by
          unfold goodD
          rw [← hl]
          exact ⟨by omega, hh.1, hh.2.1, hh.2.2.1, hh.2.2.2.1, hh.2.2.2.2.1, hh.2.2.2.2.2.1, hck, hh.2.2.2.2.2.2⟩
        rcases hown.2 with ⟨rfl, _⟩ | ⟨g, cap', cur, rfl, _⟩
        · exact ⟨.inl ⟨hg, _, _, _, rfl⟩, hbb⟩
        · exact ⟨.inl ⟨hg, _, _, _, rfl⟩, hbb⟩
      · refine (parse_no b o n cap (fun i => d.getD i 0) w (by omega) h.le h.mx hB hb hck hh).mono ?_
        rintro e w' ⟨rfl, hbb⟩
        exact ⟨.inr ⟨fun g => hh (by unfold goodD at g; rw [← hl] at g; exact ⟨g.2.1, g.2.2.1, g.2.2.2.1, g.2.2.2.2.1, g.2.2.2.2.2.1, g.2.2.2.2.2.2.1, g.2.2.2.2.2.2.2.2⟩), rfl⟩, hbb⟩
    · refine (parse_bad b o n cap (fun i => d.getD i 0) w (by omega) h.le h.mx hB hb hck).mono ?_
      rintro e w' ⟨rfl, hbb⟩
      exact ⟨.inr ⟨fun g => hck (by unfold goodD at g; rw [← hl] at g; exact g.2.2.2.2.2.2.2.1), rfl⟩, hbb⟩
end Go.Proofs.Ytkefkophlhcbiaa
